/-
  Package coord: what a machine says.
-/
import Derived.Test.YtidpeojkkfmgeaaCa
import Derived.Test.YtidpeojkkfmgeaaBk
import Derived.Test.YtidpeojkkfmgeaaClw
namespace Go.Proofs.Ytidpeojkkfmgeaa
open Go.RowKit Go.Sort

abbrev drS : Sh (Dr × List Wr) := ⟨10, fun q lv => (q.1.cells lv).toList, fun q => q.2, fun _ _ => rfl, fun q lv h => by cases lv <;> first | rfl | cases h⟩
abbrev msS : Sh (Msg × List Wr) := ⟨24, fun q lv => (q.1.cells lv).toList, fun q => q.2, fun _ _ => rfl, fun q lv h => by cases lv <;> first | rfl | cases h⟩
abbrev rcS : Sh (Rc × List Wr) := ⟨12, fun q lv => (q.1.cells lv).toList, fun q => q.2, fun _ _ => rfl, fun q lv h => by cases lv <;> first | rfl | cases h⟩
abbrev edS : Sh (Nm × Bool) := ⟨4, fun q _ => [.int .i64 q.1.stamp, .int .i64 q.1.inc, .int .i64 q.1.try_, .bool q.2], fun _ => [], fun _ _ => rfl, fun q lv h => rfl⟩
abbrev Mls := List (Msg × List Wr)
abbrev Kl := List (Rc × List Wr)
abbrev El := List (Nm × Bool)
/-- a machine that goes on, and what it says meanwhile, in memory of one's own; where its row lies is told -/
def MacF (la : Option Addr) (ln lc llo lhi : Nat) (lcs : List Value) (wc w : World) (H : List Ent) (b : Nat) (ds : Dl) (ml : Mls) (kl : Kl) (el : El) (es : List Ent) : Prop :=
  ∃ ma mc mlo mhi mcs ka kc klo khi kcs ea ec elo ehi ecs, ln = ds.length ∧
    Mem wc w (.blk b #[.slice la ln lc, .slice ma ml.length mc, .slice ka kl.length kc, .slice ea el.length ec] 71 ::
      rowE llo lhi 59 10 (.slice la ln lc) ds.length lcs :: rowE mlo mhi 36 24 (.slice ma ml.length mc) ml.length mcs ::
      rowE klo khi 97 12 (.slice ka kl.length kc) kl.length kcs :: rowE elo ehi 66 4 (.slice ea el.length ec) el.length ecs :: (H ++ es)) ∧
    BkG drS lcs ds es ∧ BkG msS mcs ml es ∧ BkG rcS kcs kl es ∧ BkG edS ecs el es
/-- a machine that goes on, and what it says meanwhile, in memory of one's own -/
def MacE (wc w : World) (H : List Ent) (b : Nat) (ds : Dl) (ml : Mls) (kl : Kl) (el : El) (es : List Ent) : Prop :=
  ∃ la ln lc llo lhi lcs, MacF la ln lc llo lhi lcs wc w H b ds ml kl el es
/-- shards of the bits, 1 to j -/
def bitsK (n : Int) (j : Nat) : List Nat := ((List.range j).map (· + 1)).filter (bitK n)
theorem bitsK_succ (n : Int) (j : Nat) : bitsK n (j + 1) = bitsK n j ++ (if bitK n (j + 1) = true then [j + 1] else []) := by
  unfold bitsK
  rw [List.range_succ, List.map_append, List.filter_append]
  congr 1
  cases h : bitK n (j + 1) <;> simp [h]
theorem bitsK_len (n : Int) : ∀ j, (bitsK n j).length ≤ j
  | 0 => Nat.le_refl _
  | j + 1 => by
    have := bitsK_len n j
    rw [bitsK_succ, List.length_append]; split <;> simp <;> omega
set_option maxHeartbeats 400000 in
theorem each_any {f : FuncId} {fi ca : List Value} (hE : Enters Try.prog f) (n : Int) (I : List Nat → World → Prop) (w : World) (h0 : I [] w)
    (hstep : ∀ (k : Nat) (l : List Nat) (w : World), 1 ≤ k → k ≤ 4 → l.length < k → bitK n k = true → I l w → Calls Try.prog f (fi ++ ([Value.int .i64 (k : Int)] ++ ca)).toArray w (fun e w' => e = .returned (.tuple #[]) ∧ I (l ++ [k]) w')) :
    Calls Try.prog 63 #[.int .i64 n, .func (.func f) fi.toArray ca.toArray] w (fun e w' => e = .returned (.tuple #[]) ∧ I (bitsK n 4) w') := by
  have M := Mem.start w
  refine calls_enter Try.func63 rfl 17 rfl rfl ?_; intro a S
  refine nxD ?_
  refine st_go [1] S rfl (by kernel_rfl) ?_; clear S a; intro a S
  refine nxC ?_
  refine wp_block ?_
  refine wp_loop_g (fun m a w' => ∃ (k : Nat), k ≤ 4 ∧ m = 4 - k ∧ Sees 17 a [(0, .int .i64 n), (1, .func (.func f) fi.toArray ca.toArray), (4, .int .i64 ((k + 1 : Nat) : Int))] ∧ I (bitsK n k) w') (4) ?_ ?_
  · skip
    exact ⟨0, by omega, rfl, S.sub _ rfl, h0⟩
  clear S M a; intro m a wl
  rintro ⟨k, hk, rfl, S, hI⟩
  refine wp_seq ?_
  refine nxD ?_
  refine st_go [1, 1] S rfl (by kernel_rfl) ?_; clear S a; intro a S
  refine nxC ?_
  refine st_fi (t := 6) S rfl ?_ ?_
  · clear S; intro h6 S
    refine st_condF S rfl ?_
    refine wp_exit ?_
    refine then_exit ?_
    refine then_exit ?_
    refine block_hit ?_
    refine end_noneN S rfl ?_
    obtain rfl : k = 4 := by omega
    exact ⟨rfl, hI⟩
  clear S; intro h6 S
  refine st_condT S rfl ?_
  refine wp_skip ?_
  refine then_normal ?_
  refine wp_seq ?_
  refine wp_block ?_
  refine nxD ?_
  refine st_go [1, 1] S rfl (by kernel_rfl) ?_; clear S a; intro a S
  (first | refine st_y S rfl rfl rfl (y_shrN S rfl rfl (by omega)) ?_ | refine st_y S rfl rfl rfl (y_shr S rfl rfl (by omega)) ?_); clear S a; intro a S
  refine st_y S rfl rfl rfl (y_int S rfl rfl rfl) ?_; clear S a; intro a S
  refine st_go [1] S rfl (by kernel_rfl) ?_; clear S a; intro a S
  refine nxC ?_
  refine st_tils (t := 13) S rfl ?_ ?_
  · clear S; intro h13 S
    refine st_condF S rfl ?_
    refine wp_skip ?_
    refine block_normal ?_
    refine nxF ?_
    refine st_go [1] S rfl (by kernel_rfl) ?_; clear S a; intro a S
    (first | refine st_y S rfl rfl rfl (y_addN S rfl rfl (by omega)) ?_ | refine st_y S rfl rfl rfl (y_int S rfl rfl rfl) ?_); clear S a; intro a S
    refine st_go [1] S rfl (by kernel_rfl) ?_; clear S a; intro a S
    refine nxC ?_
    first
      | (refine ⟨4 - (k + 1), by omega, k + 1, by omega, rfl, ?_, by rw [bitsK_succ, if_pos hbit]; exact hI2⟩
         rw [show ((k + 1 + 1 : Nat) : Int) = ((k + 1 : Nat) : Int) + 1 by omega]; exact S.sub _ rfl)
      | (have hbit : ¬ bitK n (k + 1) = true := by
           unfold bitK andV; rw [Int.toNat_natCast] at h13; rw [h13]; simp
         refine ⟨4 - (k + 1), by omega, k + 1, by omega, rfl, ?_, by rw [bitsK_succ, if_neg hbit, List.append_nil]; exact hI⟩
         rw [show ((k + 1 + 1 : Nat) : Int) = ((k + 1 : Nat) : Int) + 1 by omega]; exact S.sub _ rfl)
  clear S; intro h13 S
  refine st_condT S rfl ?_
  have hbit : bitK n (k + 1) = true := by unfold bitK andV; rw [Int.toNat_natCast] at h13; exact h13
  refine wp_region_lit ?_
  refine st_go [1, 1] S rfl (by kernel_rfl) ?_; clear S a; intro a S
  refine st_callB (xs := [(Operand.tmp 15)]) (fi := fi) (ca := ca) S (hE) rfl rfl (rfl) rfl (hstep (k + 1) _ _ (by omega) (by omega) (Nat.lt_succ_of_le (bitsK_len n k)) hbit hI) ?_
  rintro _ w1 ⟨rfl, hI2⟩; refine ⟨_, rfl, ?_⟩; clear S a; intro a S
  refine wpList_nil ?_
  refine block_normal ?_
  refine nxF ?_
  refine st_go [1] S rfl (by kernel_rfl) ?_; clear S a; intro a S
  (first | refine st_y S rfl rfl rfl (y_addN S rfl rfl (by omega)) ?_ | refine st_y S rfl rfl rfl (y_int S rfl rfl rfl) ?_); clear S a; intro a S
  refine st_go [1] S rfl (by kernel_rfl) ?_; clear S a; intro a S
  refine nxC ?_
  first
    | (refine ⟨4 - (k + 1), by omega, k + 1, by omega, rfl, ?_, by rw [bitsK_succ, if_pos hbit]; exact hI2⟩
       rw [show ((k + 1 + 1 : Nat) : Int) = ((k + 1 : Nat) : Int) + 1 by omega]; exact S.sub _ rfl)
    | (have hbit : ¬ bitK n (k + 1) = true := by
         unfold bitK andV; rw [Int.toNat_natCast] at h13; rw [h13]; simp
       refine ⟨4 - (k + 1), by omega, k + 1, by omega, rfl, ?_, by rw [bitsK_succ, if_neg hbit, List.append_nil]; exact hI⟩
       rw [show ((k + 1 + 1 : Nat) : Int) = ((k + 1 : Nat) : Int) + 1 by omega]; exact S.sub _ rfl)

set_option maxHeartbeats 400000 in
theorem sayF_any {la : Option Addr} {ln lc llo lhi : Nat} {lcs : List Value} {wc w : World} {H : List Ent} {b : Nat} {ds : Dl} {ml : Mls} {kl : Kl} {el : El} {es : List Ent} (W : MacF la ln lc llo lhi lcs wc w H b ds ml kl el es) (m : Msg) (lv : Value) (x : List Wr) (hw : WrAt lv x es) (hml : ml.length ≤ 100000) :
    Calls Try.prog 62 #[.pointer (some ⟨b, 0, none⟩), .agg (m.cells lv)] w (fun e w' => e = .returned (.tuple #[]) ∧ MacF la ln lc llo lhi lcs wc w' H b ds (ml ++ [(m, x)]) kl el es) := by
  obtain ⟨ma, mc, mlo, mhi, mcs, ka, kc, klo, khi, kcs, ea, ec, elo, ehi, ecs, hln, M, hD, hM, hK, hEn⟩ := W
  obtain ⟨xa, xc, rfl, -⟩ := hw.form
  refine calls_enter Try.func62 rfl 16 rfl rfl ?_; intro a S
  refine wp_seq ?_
  skip
  refine wp_region_lit ?_
  refine st_box S M rfl rfl rfl #[_, _, _, _, _, _, _, _, _, _, _, _, _, _, _, _, _, _, _, _, _, _, _, _] rfl ?_; clear S M a; intro a w1 bX S M hB
  refine nxC ?_
  refine wp_regionK [8, 12] #[false, false, false, false, false, false, false, false, false, false, false, false, false] rfl M (by kernel_rfl) ?_; clear M; intro w2 M
  refine k_pure (listed' := #[true, false, false, false, false, false, false, false, false, false, false, false, false]) 0 S rfl rfl rfl rfl (by kernel_rfl) rfl (fun _ d _ _ _ h => by cases d <;> exact h) (fun w => y_move S rfl) ?_; clear S a; intro a S
  refine k_pure (listed' := #[true, true, false, false, false, false, false, false, false, false, false, false, false]) 1 S rfl rfl rfl rfl (by kernel_rfl) rfl (fun _ d _ _ _ h => by cases d <;> exact h) (fun w => y_move S rfl) ?_; clear S a; intro a S
  refine k_pure (listed' := #[true, true, true, false, false, false, false, false, false, false, false, false, false]) 2 S rfl rfl rfl rfl (by kernel_rfl) rfl (fun _ d _ _ _ h => by cases d <;> exact h) (fun w => y_nilCheck S rfl) ?_; clear S a; intro a S
  refine k_pure (listed' := #[true, true, true, true, false, false, false, false, false, false, false, false, false]) 3 S rfl rfl rfl rfl (by kernel_rfl) rfl (fun _ d _ _ _ h => by cases d <;> exact h) (fun w => y_fieldAddr (k := 1) S (by kernel_rfl) rfl) ?_; clear S a; intro a S
  refine k_pure (listed' := #[true, true, true, true, true, false, false, false, false, false, false, false, false]) 4 S rfl rfl rfl rfl (by kernel_rfl) rfl (fun _ d _ _ _ h => by cases d <;> exact h) (fun w => y_fieldAddr (k := 0) S (by kernel_rfl) rfl) ?_; clear S a; intro a S
  refine k_read (listed' := #[true, true, true, true, true, true, false, false, false, false, false, false, false]) 5 S rfl rfl rfl rfl (by kernel_rfl) rfl (fun _ d _ _ _ h => by cases d <;> exact h) (fun w hW => have M := M.grow hW; y_load S (by kernel_rfl) rfl (M.cell 1 rfl rfl)) ?_; clear S a; intro a S
  refine k_read (listed' := #[true, true, true, true, true, true, true, false, false, false, false, false, false]) 6 S rfl rfl rfl rfl (by kernel_rfl) rfl (fun _ d _ _ _ h => by cases d <;> exact h) (fun w hW => have M := M.grow hW; y_loadAgg (cs := [_, _, _, _, _, _, _, _, _, _, _, _, _, _, _, _, _, _, _, _, _, _, _, _]) S (by kernel_rfl) rfl rfl (M.cellsAt (k := 24) 0 rfl rfl)) ?_; clear S a; intro a S
  refine k_one (listed' := #[true, true, true, true, true, true, true, true, false, false, false, false, false]) 7 rfl (by kernel_rfl) rfl ?_
  refine st_lit (ps := [(0, (Operand.tmp 10))]) (e := 36) (sz := 24) (zl := [.int .i8 0, .int .i64 0, .int .i64 0, .int .i64 0, .int .i64 0, .int .i64 0, .int .i64 0, .int .i64 0, .int .i64 0, .int .i8 0, .int .i64 0, .int .u8 0, .int .u8 0, .int .u8 0, .int .u8 0, .int .u8 0, .int .u8 0, .int .u8 0, .int .u8 0, .int .i64 0, .bool false, .int .i64 0, .int .i64 0, .slice none 0 0]) (cs := (m.cells (.slice xa x.length xc)).toList) S M rfl rfl (by kernel_rfl) rfl (by kernel_rfl) ?_; clear S M a; intro a w3 bZ S M hB
  refine wpList_nil ?_; refine then_normal ?_; refine ⟨fun _ => hB, ?_⟩
  refine k_one (listed' := #[true, true, true, true, true, true, true, true, true, false, false, false, false]) 8 rfl (by kernel_rfl) rfl ?_
  refine st_append (e := 36) (sz := 24) (by_ := 152) (zc := [.int .i8 0, .int .i64 0, .int .i64 0, .int .i64 0, .int .i64 0, .int .i64 0, .int .i64 0, .int .i64 0, .int .i64 0, .int .i8 0, .int .i64 0, .int .u8 0, .int .u8 0, .int .u8 0, .int .u8 0, .int .u8 0, .int .u8 0, .int .u8 0, .int .u8 0, .int .i64 0, .bool false, .int .i64 0, .int .i64 0, .slice none 0 0]) S M 4 rfl rfl (by kernel_rfl) rfl (by decide) rfl rfl rfl (show Rd _ _ _ 24 _ 1 (m.cells (.slice xa x.length xc)).toList from M.sliceAt 0 rfl (M.cellsAt (k := 24) 0 rfl rfl) rfl (Nat.le_refl _) (by unfold maxLen; omega)) (rfl) (by omega) (by unfold maxLen; omega) ?_; clear S M a; intro a w4 vA loA hiA S M
  refine wpList_nil ?_; refine then_normal ?_; refine ⟨fun h => absurd h (by decide), ?_⟩
  refine k_pure (listed' := #[true, true, true, true, true, true, true, true, true, true, false, false, false]) 9 S rfl rfl rfl rfl (by kernel_rfl) rfl (fun _ d _ _ _ h => by cases d <;> exact h) (fun w => y_nilCheck S rfl) ?_; clear S a; intro a S
  refine k_pure (listed' := #[true, true, true, true, true, true, true, true, true, true, true, false, false]) 10 S rfl rfl rfl rfl (by kernel_rfl) rfl (fun _ d _ _ _ h => by cases d <;> exact h) (fun w => y_fieldAddr (k := 1) S (by kernel_rfl) rfl) ?_; clear S a; intro a S
  refine k_pure (listed' := #[true, true, true, true, true, true, true, true, true, true, true, true, false]) 11 S rfl rfl rfl rfl (by kernel_rfl) rfl (fun _ d _ _ _ h => by cases d <;> exact h) (fun w => y_fieldAddr (k := 0) S (by kernel_rfl) rfl) ?_; clear S a; intro a S
  refine k_one (listed' := #[true, true, true, true, true, true, true, true, true, true, true, true, true]) 12 rfl (by kernel_rfl) rfl ?_
  obtain ⟨aA, cA, rfl, -, -⟩ := (M.readAll 0 rfl (by unfold maxLen; omega)).form
  refine st_store (sz := 1) (us := [_]) S M 3 rfl (by kernel_rfl) rfl rfl rfl rfl rfl rfl (by first | decide | (simp; done) | (simp; omega)) ?_; clear M; intro w5 M
  simp only [putL, List.set_cons_zero, List.set_cons_succ, Nat.reduceAdd] at M
  refine wpList_nil ?_; refine then_normal ?_; refine ⟨fun h => absurd h (by decide), ?_⟩
  refine k_end (by kernel_rfl) ?_
  refine end_noneN S rfl ?_
  replace M := M.drop 1
  simp only [List.eraseIdx_cons_succ, List.eraseIdx_cons_zero] at M
  replace M := M.drop 1
  simp only [List.eraseIdx_cons_succ, List.eraseIdx_cons_zero] at M
  replace M := M.front 2 rfl
  simp only [List.eraseIdx_cons_succ, List.eraseIdx_cons_zero] at M
  replace M := M.front 2 rfl
  simp only [List.eraseIdx_cons_succ, List.eraseIdx_cons_zero] at M
  have hM' := hM.more (q := (m, x)) hw
  refine ⟨rfl, aA, cA, loA, hiA, _, ka, kc, klo, khi, kcs, ea, ec, elo, ehi, ecs, hln, ?_, hD, hM', hK, hEn⟩
  rw [List.length_append (bs := [(m, x)])]; exact M
theorem say_any {wc w : World} {H : List Ent} {b : Nat} {ds : Dl} {ml : Mls} {kl : Kl} {el : El} {es : List Ent} (W : MacE wc w H b ds ml kl el es) (m : Msg) (lv : Value) (x : List Wr) (hw : WrAt lv x es) (hml : ml.length ≤ 100000) :
    Calls Try.prog 62 #[.pointer (some ⟨b, 0, none⟩), .agg (m.cells lv)] w (fun e w' => e = .returned (.tuple #[]) ∧ MacE wc w' H b ds (ml ++ [(m, x)]) kl el es) := by
  obtain ⟨la, ln, lc, llo, lhi, lcs, W⟩ := W
  exact (sayF_any W m lv x hw hml).mono fun e w' ⟨he, h⟩ => ⟨he, la, ln, lc, llo, lhi, lcs, h⟩

theorem perm5 {a p q r s t : Ent} {l : List Ent} : (a :: p :: q :: r :: s :: t :: l).Perm (p :: q :: r :: s :: t :: a :: l) :=
  (List.perm_append_comm (l₁ := [a]) (l₂ := [p, q, r, s, t])).append_right l
theorem perm15 {a b p q r s t : Ent} {l : List Ent} : (a :: b :: p :: q :: r :: s :: t :: l).Perm (p :: q :: r :: s :: t :: a :: b :: l) :=
  (List.perm_append_comm (l₁ := [a, b]) (l₂ := [p, q, r, s, t])).append_right l
theorem perm35 {a b c p q r s t : Ent} {l : List Ent} : (a :: b :: c :: p :: q :: r :: s :: t :: l).Perm (p :: q :: r :: s :: t :: a :: b :: c :: l) :=
  (List.perm_append_comm (l₁ := [a, b, c]) (l₂ := [p, q, r, s, t])).append_right l
section
variable {la : Option Addr} {ln lc llo lhi : Nat} {lcs : List Value} {wc w : World} {H : List Ent} {b : Nat} {ds : Dl} {ml : Mls} {kl : Kl} {el : El} {es : List Ent}
/-- what lies beside a machine may be forgotten -/
theorem MacF.less {H' : List Ent} (W : MacF la ln lc llo lhi lcs wc w H b ds ml kl el es) (h : H'.Sublist H) : MacF la ln lc llo lhi lcs wc w H' b ds ml kl el es := by
  obtain ⟨ma, mc, mlo, mhi, mcs, ka, kc, klo, khi, kcs, ea, ec, elo, ehi, ecs, hln, M, h1⟩ := W
  exact ⟨ma, mc, mlo, mhi, mcs, ka, kc, klo, khi, kcs, ea, ec, elo, ehi, ecs, hln, M.sub (((((((h.append_right es).cons_cons _).cons_cons _).cons_cons _).cons_cons _).cons_cons _)), h1⟩
theorem MacE.less {H' : List Ent} (W : MacE wc w H b ds ml kl el es) (h : H'.Sublist H) : MacE wc w H' b ds ml kl el es := by
  obtain ⟨la, ln, lc, llo, lhi, lcs, W⟩ := W
  exact ⟨la, ln, lc, llo, lhi, lcs, W.less h⟩
def decM (nm : Nm) (y : Bool) (k : Nat) : Msg × List Wr := (⟨6, 0, k, 0, 0, nm, 0, 0, 0, ⟨0, 0, 0, 0, 0, 0, 0, 0⟩, 0, y, 0, 0⟩, [])
theorem decides1F_any {bn bx by_ : Nat} (nm : Nm) (y : Bool) (k : Nat) (hml : ml.length ≤ 100000)
    (W : MacF la ln lc llo lhi lcs wc w (.blk bn #[.func (.func 62) #[.pointer (some ⟨b, 0, none⟩)] #[]] 69 :: .blk by_ #[.bool y] 4 :: .blk bx nm.cells 26 :: H) b ds ml kl el es) :
    Calls Try.prog 65 #[.int .i64 (k : Int), .pointer (some ⟨bn, 0, none⟩), .pointer (some ⟨bx, 0, none⟩), .pointer (some ⟨by_, 0, none⟩)] w (fun e w' => e = .returned (.tuple #[]) ∧ MacF la ln lc llo lhi lcs wc w' (.blk bn #[.func (.func 62) #[.pointer (some ⟨b, 0, none⟩)] #[]] 69 :: .blk by_ #[.bool y] 4 :: .blk bx nm.cells 26 :: H) b ds (ml ++ [decM nm y k]) kl el es) := by
  have W0 := W
  obtain ⟨ma, mc, mlo, mhi, mcs, ka, kc, klo, khi, kcs, ea, ec, elo, ehi, ecs, hln, M, hD, hM, hK, hEn⟩ := W
  refine calls_enter Try.func65 rfl 11 rfl rfl ?_; intro a S
  skip
  refine wp_region_lit ?_
  refine st_run [6, 1] S M rfl (by kernel_rfl) ?_; clear S a; intro a S
  refine st_y S rfl rfl rfl (y_loadAgg (cs := [_, _, _]) S (by kernel_rfl) rfl rfl (M.cellsAt (k := 3) 7 rfl rfl)) ?_; clear S a; intro a S
  refine st_run [7] S M rfl (by kernel_rfl) ?_; clear S a; intro a S
  refine st_y S rfl rfl rfl (y_build (ps := [(0, (Operand.const (Value.int IntKind.i8 6))), (2, (Operand.tmp 6)), (5, (Operand.tmp 7)), (11, (Operand.tmp 8))]) (pl := [(0, 1), (1, 1), (2, 1), (3, 1), (4, 1), (5, 3), (8, 1), (9, 1), (10, 1), (11, 8), (19, 1), (20, 1), (21, 1), (22, 1), (23, 1)]) (z := [.int .i8 0, .int .i64 0, .int .i64 0, .int .i64 0, .int .i64 0, .int .i64 0, .int .i64 0, .int .i64 0, .int .i64 0, .int .i8 0, .int .i64 0, .int .u8 0, .int .u8 0, .int .u8 0, .int .u8 0, .int .u8 0, .int .u8 0, .int .u8 0, .int .u8 0, .int .i64 0, .bool false, .int .i64 0, .int .i64 0, .slice none 0 0]) (cs := [_, _, _, _, _, _, _, _, _, _, _, _, _, _, _, _, _, _, _, _, _, _, _, _]) S (by kernel_rfl) rfl (rfl)) ?_; clear S a; intro a S
  refine st_callB (xs := [(Operand.tmp 9)]) (fi := [_]) (ca := []) S (enters_of Try.func62 (by decide) rfl) rfl rfl (rfl) rfl (sayF_any W0 (decM nm y k).1 _ [] (.inl ⟨rfl, rfl⟩) hml) ?_
  rintro _ w1 ⟨rfl, W1⟩; refine ⟨_, rfl, ?_⟩; clear S a; intro a S
  refine wpList_nil ?_
  refine end_noneN S rfl ?_
  exact ⟨rfl, W1⟩
set_option maxHeartbeats 400000 in
theorem decidesF_any (W : MacF la ln lc llo lhi lcs wc w H b ds ml kl el es) (nm : Nm) (n : Int) (y : Bool) (hml : ml.length ≤ 90000) :
    Calls Try.prog 45 #[.pointer (some ⟨b, 0, none⟩), .agg nm.cells, .int .i64 n, .bool y] w (fun e w' => e = .returned (.tuple #[]) ∧ MacF la ln lc llo lhi lcs wc w' H b ds (ml ++ (bitsK n 4).map (decM nm y)) kl el es) := by
  obtain ⟨ma, mc, mlo, mhi, mcs, ka, kc, klo, khi, kcs, ea, ec, elo, ehi, ecs, hln, M, hD, hM, hK, hEn⟩ := W
  refine calls_enter Try.func45 rfl 14 rfl rfl ?_; intro a S
  refine wp_seq ?_
  skip
  refine wp_region_lit ?_
  refine st_box S M rfl rfl rfl #[_, _, _] rfl ?_; clear S M a; intro a w1 bX S M hB
  refine st_box S M rfl rfl rfl #[_] rfl ?_; clear S M a; intro a w2 bY S M hB
  refine nxA ?_
  refine st_go [1] S rfl (by kernel_rfl) ?_; clear S a; intro a S
  refine st_y S rfl rfl rfl (y_makeFunc (fs := [(Operand.tmp 9)]) (cs := []) S rfl rfl) ?_; clear S a; intro a S
  refine st_alloc S M rfl rfl #[.nilFunc] (by kernel_rfl) ?_; clear S M a; intro a w3 bN S M hB
  refine st_store (sz := 1) (us := [_]) S M 0 rfl (by kernel_rfl) rfl rfl rfl rfl rfl rfl (by first | decide | (simp; done) | (simp; omega)) ?_; clear M; intro w4 M
  simp only [putL, List.set_cons_zero, List.set_cons_succ, Nat.reduceAdd] at M
  refine nxB ?_
  refine st_go [1] S rfl (by kernel_rfl) ?_; clear S a; intro a S
  refine st_y S rfl rfl rfl (y_makeFunc (fs := []) (cs := [(Operand.tmp 8), (Operand.tmp 5), (Operand.tmp 7)]) S rfl rfl) ?_; clear S a; intro a S
  replace M := M.perm perm35
  refine st_call (xs := [(Operand.tmp 11), (Operand.tmp 12)]) S (enters_of Try.func63 (by decide) rfl) rfl rfl rfl (each_any (fi := []) (ca := [.pointer (some ⟨bN, 0, none⟩), .pointer (some ⟨bX, 0, none⟩), .pointer (some ⟨bY, 0, none⟩)]) (enters_of Try.func65 (by decide) rfl) n (fun l w' => MacF la ln lc llo lhi lcs wc w' (.blk bN #[.func (.func 62) #[.pointer (some ⟨b, 0, none⟩)] #[]] 69 :: .blk bY #[.bool y] 4 :: .blk bX nm.cells 26 :: H) b ds (ml ++ l.map (decM nm y)) kl el es) _ ⟨ma, mc, mlo, mhi, mcs, ka, kc, klo, khi, kcs, ea, ec, elo, ehi, ecs, hln, by simpa using M, hD, by simpa using hM, hK, hEn⟩ (fun k l w' h1 h4 hl _ W' => (decides1F_any nm y k (by simp; omega) W').mono fun e w'' ⟨he, h⟩ => ⟨he, by rw [List.map_append, ← List.append_assoc]; exact h⟩)) ?_
  rintro _ w5 ⟨rfl, W1⟩; refine ⟨_, rfl, ?_⟩; clear S a; intro a S
  refine wpList_nil ?_
  refine end_noneN S rfl ?_
  exact ⟨rfl, W1.less (.cons _ (.cons _ (.cons _ (List.Sublist.refl _))))⟩
theorem decides_any (W : MacE wc w H b ds ml kl el es) (nm : Nm) (n : Int) (y : Bool) (hml : ml.length ≤ 90000) :
    Calls Try.prog 45 #[.pointer (some ⟨b, 0, none⟩), .agg nm.cells, .int .i64 n, .bool y] w (fun e w' => e = .returned (.tuple #[]) ∧ MacE wc w' H b ds (ml ++ (bitsK n 4).map (decM nm y)) kl el es) := by
  obtain ⟨la, ln, lc, llo, lhi, lcs, W⟩ := W
  exact (decidesF_any W nm n y hml).mono fun e w' ⟨he, h⟩ => ⟨he, la, ln, lc, llo, lhi, lcs, h⟩
end

end Go.Proofs.Ytidpeojkkfmgeaa
