/-
  Package lock: against, a generator; the library's Collect.
-/
import Derived.Test.YtcbofgcmfkcglaaLe
namespace Go.Proofs.Ytcbofgcmfkcglaa
open Go.RowKit Go.Sort

/-- the names of those that conflict -/
def nf (x : Lk) (l : List Lk) : List Nm := (l.filter fun y => conf y x).map Lk.name
theorem nf_step {x : Lk} {l : List Lk} {k : Nat} {y : Lk} (hy : l[k]? = some y) : nf x (l.take (k + 1)) = nf x (l.take k) ++ if conf y x = true then [y.name] else [] := by
  unfold nf
  rw [List.take_add_one, hy, List.filter_append, List.map_append]
  congr 1
  simp only [Option.toList_some, List.filter_cons, List.filter_nil]
  split <;> rfl
theorem nf_at {x : Lk} {l : List Lk} {k : Nat} {y : Lk} (hy : l[k]? = some y) (hc : conf y x = true) : ∃ t, nf x l = nf x (l.take k) ++ y.name :: t := by
  obtain ⟨hlt, he⟩ := List.getElem?_eq_some_iff.1 hy
  refine ⟨nf x (l.drop (k + 1)), ?_⟩
  have e : l = l.take k ++ y :: l.drop (k + 1) := by
    conv => lhs; rw [← List.take_append_drop k l, List.drop_eq_getElem_cons hlt, he]
  conv => lhs; rw [e]
  simp [nf, hc]
/-- the names for which a request would wait -/
def agR (h wt : List Lk) (x : Lk) (up : Bool) : List Nm := nf x h ++ if up = true then [] else nf x wt
abbrev encN (n : Nm) : List Value := [.agg n.cells]
structure AgC (bT bL bU : Nat) (ha wa : Option Addr) (hc wc : Nat) (h wt : List Lk) (x : Lk) (up : Bool) (W : World) : Prop where
  tab : Blk W bT #[.slice ha h.length hc, .slice wa wt.length wc] 30
  lk : Blk W bL x.cellsL.toArray 37
  upg : Blk W bU #[.bool up] 4
  held : Ls 0 W.heap.size W (.slice ha h.length hc) h
  wait : Ls 0 W.heap.size W (.slice wa wt.length wc) wt
theorem AgC.mono {bT bL bU : Nat} {ha wa : Option Addr} {hc wc : Nat} {h wt : List Lk} {x : Lk} {up : Bool} {W W' : World} (A : AgC bT bL bU ha wa hc wc h wt x up W) (hb : Below W.heap.size W W') : AgC bT bL bU ha wa hc wc h wt x up W' :=
  ⟨(hb.block bT A.tab.lt).trans A.tab, (hb.block bL A.lk.lt).trans A.lk, (hb.block bU A.upg.lt).trans A.upg, A.held.later hb, A.wait.later hb⟩
set_option maxHeartbeats 1000000 in
theorem against1_gen (bT bL bU : Nat) (ha wa : Option Addr) (hc wc : Nat) (h wt : List Lk) (x : Lk) (up : Bool) : Gen Try.prog 40 [.pointer (some ⟨bT, 0, none⟩), .pointer (some ⟨bL, 0, none⟩), .pointer (some ⟨bU, 0, none⟩)] encN (agR h wt x up) (AgC bT bL bU ha wa hc wc h wt x up) := by
  intro ll I w hC hg hY h0
  have A := hC _ _ h0
  have hl := A.held.2.1
  have hl2 := A.wait.2.1
  unfold maxLen at hl hl2
  have M := Mem.start w
  refine calls_enterG Try.func40 rfl 46 rfl rfl ?_; intro a S
  refine wpIn_seq ?_
  refine wpIn_seq ?_
  refine wpI_region (by kernel_rfl) (by rintro _ _ ⟨⟨_, h⟩, -⟩; cases h) ?_
  refine st_go [1] S rfl (by kernel_rfl) ?_; clear S a; intro a S
  refine st_y S rfl rfl rfl (y_load S (by kernel_rfl) rfl (A.tab.cells 0)) ?_; clear S a; intro a S
  refine st_y S rfl rfl rfl (y_lenS (E := 37) S rfl (by kernel_rfl)) ?_; clear S a; intro a S
  refine st_go [1] S rfl (by kernel_rfl) ?_; clear S a; intro a S
  refine nxC ?_
  refine wpIn_block ?_
  refine wpI_loop_g (fun m a w' => ∃ (k : Nat), k ≤ h.length ∧ m = h.length - k ∧ Sees 46 a [(0, .func (.yield ll) #[] #[]), (1, .pointer (some ⟨bT, 0, none⟩)), (2, .pointer (some ⟨bL, 0, none⟩)), (3, .pointer (some ⟨bU, 0, none⟩)), (10, .slice ha h.length hc), (11, .int .i64 (h.length : Int)), (12, .int .i64 (k : Int))] ∧ I (nf x (h.take k)) w') (h.length) ?_ ?_
  · skip
    exact ⟨0, Nat.zero_le _, rfl, S.sub _ rfl, h0⟩
  clear S M a; intro m a wl
  rintro ⟨k, hk, rfl, S, hI⟩
  have M := Mem.start wl
  have A := hC _ _ hI
  refine wpIn_seq ?_
  refine wpI_region (by kernel_rfl) (by rintro _ _ ⟨⟨_, h⟩, -⟩; cases h) ?_
  refine st_go [1] S rfl (by kernel_rfl) ?_; clear S a; intro a S
  refine nxC ?_
  refine wpIn_seq ?_
  refine st_if (t := 13) S rfl ?_ ?_
  · clear S; intro h13 S
    refine stI_condT S rfl ?_
    refine wpIn_skip ?_
    refine then_normal ?_
    refine wpIn_seq ?_
    refine wpIn_block ?_
    refine wpIn_seq ?_
    obtain ⟨y, hy⟩ : ∃ y, h[k]? = some y := ⟨_, List.getElem?_eq_getElem (by omega)⟩
    have hst := nf_step (x := x) hy
    refine wpI_region (by kernel_rfl) (by rintro _ _ ⟨⟨_, h⟩, -⟩; cases h) ?_
    refine st_y S rfl rfl rfl (y_indexR (e := 37) (sz := 5) S (by kernel_rfl) rfl ((M.arg A.held)) rfl (by first | omega | (simp; done) | (simp; omega))) ?_; clear S a; intro a S
    try simp only [Int.toNat_natCast, Nat.mul_one, Nat.zero_add] at S
    refine st_y S rfl rfl rfl (y_loadAgg S (by kernel_rfl) rfl rfl ((M.arg A.held).at_.row (i := k) (lcells_get hy) rfl)) ?_; clear S a; intro a S
    refine st_alloc S M rfl rfl #[.int .i64 0, .int .i64 0, .int .i64 0, .int .i64 0, .bool false] (by kernel_rfl) ?_; clear S M a; intro a w1 bY S M hB
    refine st_store (sz := 5) (us := [_, _, _, _, _]) S M 0 rfl (by kernel_rfl) rfl rfl rfl rfl rfl rfl (by first | decide | (simp; done) | (simp; omega)) ?_; clear M; intro w2 M
    simp only [putL, List.set_cons_zero, List.set_cons_succ, Nat.reduceAdd] at M
    refine nxC ?_
    refine wpIn_seq ?_
    refine wpI_preK 7 (by kernel_rfl) (by rintro _ _ ⟨⟨_, h⟩, -⟩; cases h) ?_; simp only [List.take_succ_cons, List.take_zero, List.drop_succ_cons, List.drop_zero]
    refine st_y S rfl rfl rfl (y_loadAgg (cs := [_, _, _, _, _]) S (by kernel_rfl) rfl rfl (M.cellsAt (k := 5) 0 rfl rfl)) ?_; clear S a; intro a S
    refine st_y S rfl rfl rfl (y_loadAgg S (by kernel_rfl) rfl rfl (show CellsAt _ bL 0 x.cellsL from Blk.cellsAt (o := 0) (k := 5) (A.mono M.below).lk rfl)) ?_; clear S a; intro a S
    refine st_call (xs := [(Operand.tmp 16), (Operand.tmp 17)]) S (enters_of Try.func41 (by decide) rfl) rfl rfl rfl (conf_any y x _) ?_
    rintro _ w3 ⟨rfl, hK⟩; refine ⟨_, rfl, ?_⟩; clear S a; intro a S; replace M := M.grow hK
    refine st_go [1] S rfl (by kernel_rfl) ?_; clear S a; intro a S
    refine st_fi (t := 19) S rfl ?_ ?_
    · clear S; intro h19 S
      refine st_go [0, 0, 0] S rfl (by kernel_rfl) ?_; clear S a; intro a S
      refine wpList_nil ?_; refine then_normal ?_
      refine list_in (by kernel_rfl) (by rintro _ _ ⟨⟨_, h⟩, -⟩; cases h) ?_
      refine st_no S rfl rfl rfl ?_; clear S a; intro a S
      refine st_go [0, 1] S rfl (by kernel_rfl) ?_; clear S a; intro a S
      refine nxC ?_
      refine stI_condF S rfl ?_
      refine wpIn_skip ?_
      refine block_normal ?_
      refine then_normal ?_
      refine wpI_region (by kernel_rfl) (by rintro _ _ ⟨⟨_, h⟩, -⟩; cases h) ?_
      (first | refine st_y S rfl rfl rfl (y_addN S rfl rfl (by omega)) ?_ | refine st_y S rfl rfl rfl (y_int S rfl rfl rfl) ?_); clear S a; intro a S
      refine st_go [1] S rfl (by kernel_rfl) ?_; clear S a; intro a S
      refine nxC ?_
      first
        | (rw [if_pos h19] at hst; exact ⟨h.length - (k + 1), by omega, k + 1, by omega, rfl, S.sub _ rfl, by rw [hst]; exact hg _ _ _ hI2 M.below⟩)
        | (rw [if_neg (by rw [h19]; decide), List.append_nil] at hst; exact ⟨h.length - (k + 1), by omega, k + 1, by omega, rfl, S.sub _ rfl, by rw [hst]; exact hg _ _ _ hI M.below⟩)
    clear S; intro h19 S
    refine st_go [1, 1] S rfl (by kernel_rfl) ?_; clear S a; intro a S
    refine st_y S rfl rfl rfl (y_loadAgg (cs := [_, _, _]) S (by kernel_rfl) rfl rfl (M.cellsAt (k := 3) 0 rfl rfl)) ?_; clear S a; intro a S
    obtain ⟨t, ht⟩ := nf_at hy h19
    refine wpList_nil ?_; refine then_normal ?_
    refine stI_yield (xs := [(Operand.tmp 22)]) S rfl (by kernel_rfl) rfl rfl (hY (nf x (h.take k)) y.name (t ++ if up = true then [] else nf x wt) _ (by unfold agR; rw [ht]; simp) (hg _ _ _ hI M.below)) ?_
    rintro _ w4 ⟨rfl, hI2⟩; refine ⟨_, rfl, ?_⟩; clear S M a; intro a S; have M := Mem.start w4
    refine list_in (by kernel_rfl) (by rintro _ _ ⟨⟨_, h⟩, -⟩; cases h) ?_
    refine st_go [1, 1] S rfl (by kernel_rfl) ?_; clear S a; intro a S
    refine nxC ?_
    refine st_if (t := 25) S rfl ?_ ?_
    · clear S; intro h25 S
      cases h25
    clear S; intro h25 S
    refine stI_condF S rfl ?_
    refine wpIn_skip ?_
    refine block_normal ?_
    refine then_normal ?_
    refine wpI_region (by kernel_rfl) (by rintro _ _ ⟨⟨_, h⟩, -⟩; cases h) ?_
    (first | refine st_y S rfl rfl rfl (y_addN S rfl rfl (by omega)) ?_ | refine st_y S rfl rfl rfl (y_int S rfl rfl rfl) ?_); clear S a; intro a S
    refine st_go [1] S rfl (by kernel_rfl) ?_; clear S a; intro a S
    refine nxC ?_
    first
      | (rw [if_pos h19] at hst; exact ⟨h.length - (k + 1), by omega, k + 1, by omega, rfl, S.sub _ rfl, by rw [hst]; exact hg _ _ _ hI2 M.below⟩)
      | (rw [if_neg (by rw [h19]; decide), List.append_nil] at hst; exact ⟨h.length - (k + 1), by omega, k + 1, by omega, rfl, S.sub _ rfl, by rw [hst]; exact hg _ _ _ hI M.below⟩)
  clear S; intro h13 S
  refine stI_condF S rfl ?_
  refine wpIn_exit ?_
  refine then_exit ?_
  refine then_exit ?_
  refine block_hit ?_
  refine then_normal ?_
  refine wpIn_seq ?_
  refine wpIn_seq ?_
  obtain rfl : k = h.length := by omega
  rw [List.take_length] at hI
  refine wpI_region (by kernel_rfl) (by rintro _ _ ⟨⟨_, h⟩, -⟩; cases h) ?_
  refine st_y S rfl rfl rfl (y_load S (by kernel_rfl) rfl (A.upg.cells 0)) ?_; clear S a; intro a S
  refine nxC ?_
  refine st_split (t := 27) S rfl ?_ ?_
  · clear S; intro h27 S
    refine stI_condT S rfl ?_
    refine wpIn_ret ?_
    refine then_ret ?_
    refine end_none S rfl ?_
    first
      | (obtain rfl : k2 = wt.length := by omega
         rw [List.take_length] at hI
         subst h27; exact ⟨⟨_, rfl⟩, by unfold agR; rw [if_neg (by decide)]; exact hI⟩)
      | (subst h27; exact ⟨⟨_, rfl⟩, by unfold agR; rw [if_pos rfl, List.append_nil]; exact hI⟩)
  clear S; intro h27 S
  refine stI_condF S rfl ?_
  refine wpIn_skip ?_
  refine then_normal ?_
  refine wpIn_seq ?_
  refine wpI_region (by kernel_rfl) (by rintro _ _ ⟨⟨_, h⟩, -⟩; cases h) ?_
  refine st_go [2] S rfl (by kernel_rfl) ?_; clear S a; intro a S
  refine st_y S rfl rfl rfl (y_load S (by kernel_rfl) rfl (A.tab.cells 1)) ?_; clear S a; intro a S
  refine st_y S rfl rfl rfl (y_lenS (E := 37) S rfl (by kernel_rfl)) ?_; clear S a; intro a S
  refine st_go [1] S rfl (by kernel_rfl) ?_; clear S a; intro a S
  refine nxC ?_
  refine wpIn_block ?_
  refine wpI_loop_g (fun m a w' => ∃ (k : Nat), k ≤ wt.length ∧ m = wt.length - k ∧ Sees 46 a [(0, .func (.yield ll) #[] #[]), (2, .pointer (some ⟨bL, 0, none⟩)), (29, .slice wa wt.length wc), (30, .int .i64 (wt.length : Int)), (31, .int .i64 (k : Int))] ∧ I (nf x h ++ nf x (wt.take k)) w') (wt.length) ?_ ?_
  · skip
    exact ⟨0, Nat.zero_le _, rfl, S.sub _ rfl, by rw [show nf x (wt.take 0) = [] from rfl, List.append_nil]; exact hg _ _ _ hI M.below⟩
  clear S M a; intro m a wl
  rintro ⟨k2, hk2, rfl, S, hI⟩
  have M := Mem.start wl
  have A := hC _ _ hI
  refine wpIn_seq ?_
  refine wpI_region (by kernel_rfl) (by rintro _ _ ⟨⟨_, h⟩, -⟩; cases h) ?_
  refine st_go [1] S rfl (by kernel_rfl) ?_; clear S a; intro a S
  refine nxC ?_
  refine wpIn_seq ?_
  refine st_fi (t := 32) S rfl ?_ ?_
  · clear S; intro h32 S
    refine stI_condF S rfl ?_
    refine wpIn_exit ?_
    refine then_exit ?_
    refine then_exit ?_
    refine block_hit ?_
    refine end_noneN S rfl ?_
    first
      | (obtain rfl : k2 = wt.length := by omega
         rw [List.take_length] at hI
         subst h27; exact ⟨⟨_, rfl⟩, by unfold agR; rw [if_neg (by decide)]; exact hI⟩)
      | (subst h27; exact ⟨⟨_, rfl⟩, by unfold agR; rw [if_pos rfl, List.append_nil]; exact hI⟩)
  clear S; intro h32 S
  refine stI_condT S rfl ?_
  refine wpIn_skip ?_
  refine then_normal ?_
  refine wpIn_seq ?_
  refine wpIn_block ?_
  refine wpIn_seq ?_
  obtain ⟨y, hy⟩ : ∃ y, wt[k2]? = some y := ⟨_, List.getElem?_eq_getElem (by omega)⟩
  have hst := nf_step (x := x) hy
  refine wpI_region (by kernel_rfl) (by rintro _ _ ⟨⟨_, h⟩, -⟩; cases h) ?_
  refine st_y S rfl rfl rfl (y_indexR (e := 37) (sz := 5) S (by kernel_rfl) rfl ((M.arg A.wait)) rfl (by first | omega | (simp; done) | (simp; omega))) ?_; clear S a; intro a S
  try simp only [Int.toNat_natCast, Nat.mul_one, Nat.zero_add] at S
  refine st_y S rfl rfl rfl (y_loadAgg S (by kernel_rfl) rfl rfl ((M.arg A.wait).at_.row (i := k2) (lcells_get hy) rfl)) ?_; clear S a; intro a S
  refine st_alloc S M rfl rfl #[.int .i64 0, .int .i64 0, .int .i64 0, .int .i64 0, .bool false] (by kernel_rfl) ?_; clear S M a; intro a w5 bY S M hB
  refine st_store (sz := 5) (us := [_, _, _, _, _]) S M 0 rfl (by kernel_rfl) rfl rfl rfl rfl rfl rfl (by first | decide | (simp; done) | (simp; omega)) ?_; clear M; intro w6 M
  simp only [putL, List.set_cons_zero, List.set_cons_succ, Nat.reduceAdd] at M
  refine nxC ?_
  refine wpIn_seq ?_
  refine wpI_preK 7 (by kernel_rfl) (by rintro _ _ ⟨⟨_, h⟩, -⟩; cases h) ?_; simp only [List.take_succ_cons, List.take_zero, List.drop_succ_cons, List.drop_zero]
  refine st_y S rfl rfl rfl (y_loadAgg (cs := [_, _, _, _, _]) S (by kernel_rfl) rfl rfl (M.cellsAt (k := 5) 0 rfl rfl)) ?_; clear S a; intro a S
  refine st_y S rfl rfl rfl (y_loadAgg S (by kernel_rfl) rfl rfl (show CellsAt _ bL 0 x.cellsL from Blk.cellsAt (o := 0) (k := 5) (A.mono M.below).lk rfl)) ?_; clear S a; intro a S
  refine st_call (xs := [(Operand.tmp 35), (Operand.tmp 36)]) S (enters_of Try.func41 (by decide) rfl) rfl rfl rfl (conf_any y x _) ?_
  rintro _ w7 ⟨rfl, hK⟩; refine ⟨_, rfl, ?_⟩; clear S a; intro a S; replace M := M.grow hK
  refine st_go [1] S rfl (by kernel_rfl) ?_; clear S a; intro a S
  refine st_fi (t := 38) S rfl ?_ ?_
  · clear S; intro h38 S
    refine st_go [0, 0, 0] S rfl (by kernel_rfl) ?_; clear S a; intro a S
    refine wpList_nil ?_; refine then_normal ?_
    refine list_in (by kernel_rfl) (by rintro _ _ ⟨⟨_, h⟩, -⟩; cases h) ?_
    refine st_no S rfl rfl rfl ?_; clear S a; intro a S
    refine st_go [0, 1] S rfl (by kernel_rfl) ?_; clear S a; intro a S
    refine nxC ?_
    refine stI_condF S rfl ?_
    refine wpIn_skip ?_
    refine block_normal ?_
    refine then_normal ?_
    refine wpI_region (by kernel_rfl) (by rintro _ _ ⟨⟨_, h⟩, -⟩; cases h) ?_
    (first | refine st_y S rfl rfl rfl (y_addN S rfl rfl (by omega)) ?_ | refine st_y S rfl rfl rfl (y_int S rfl rfl rfl) ?_); clear S a; intro a S
    refine st_go [1] S rfl (by kernel_rfl) ?_; clear S a; intro a S
    refine nxC ?_
    first
      | (rw [if_pos h38] at hst; exact ⟨wt.length - (k2 + 1), by omega, k2 + 1, by omega, rfl, S.sub _ rfl, by rw [hst, ← List.append_assoc]; exact hg _ _ _ hI2 M.below⟩)
      | (rw [if_neg (by rw [h38]; decide), List.append_nil] at hst; exact ⟨wt.length - (k2 + 1), by omega, k2 + 1, by omega, rfl, S.sub _ rfl, by rw [hst]; exact hg _ _ _ hI M.below⟩)
  clear S; intro h38 S
  refine st_go [1, 1] S rfl (by kernel_rfl) ?_; clear S a; intro a S
  refine st_y S rfl rfl rfl (y_loadAgg (cs := [_, _, _]) S (by kernel_rfl) rfl rfl (M.cellsAt (k := 3) 0 rfl rfl)) ?_; clear S a; intro a S
  obtain ⟨t, ht⟩ := nf_at hy h38
  refine wpList_nil ?_; refine then_normal ?_
  refine stI_yield (xs := [(Operand.tmp 41)]) S rfl (by kernel_rfl) rfl rfl (hY (nf x h ++ nf x (wt.take k2)) y.name t _ (by unfold agR; rw [h27, if_neg (by decide), ht]; simp) (hg _ _ _ hI M.below)) ?_
  rintro _ w8 ⟨rfl, hI2⟩; refine ⟨_, rfl, ?_⟩; clear S M a; intro a S; have M := Mem.start w8
  refine list_in (by kernel_rfl) (by rintro _ _ ⟨⟨_, h⟩, -⟩; cases h) ?_
  refine st_go [1, 1] S rfl (by kernel_rfl) ?_; clear S a; intro a S
  refine nxC ?_
  refine st_if (t := 44) S rfl ?_ ?_
  · clear S; intro h44 S
    cases h44
  clear S; intro h44 S
  refine stI_condF S rfl ?_
  refine wpIn_skip ?_
  refine block_normal ?_
  refine then_normal ?_
  refine wpI_region (by kernel_rfl) (by rintro _ _ ⟨⟨_, h⟩, -⟩; cases h) ?_
  (first | refine st_y S rfl rfl rfl (y_addN S rfl rfl (by omega)) ?_ | refine st_y S rfl rfl rfl (y_int S rfl rfl rfl) ?_); clear S a; intro a S
  refine st_go [1] S rfl (by kernel_rfl) ?_; clear S a; intro a S
  refine nxC ?_
  first
    | (rw [if_pos h38] at hst; exact ⟨wt.length - (k2 + 1), by omega, k2 + 1, by omega, rfl, S.sub _ rfl, by rw [hst, ← List.append_assoc]; exact hg _ _ _ hI2 M.below⟩)
    | (rw [if_neg (by rw [h38]; decide), List.append_nil] at hst; exact ⟨wt.length - (k2 + 1), by omega, k2 + 1, by omega, rfl, S.sub _ rfl, by rw [hst]; exact hg _ _ _ hI M.below⟩)
theorem against_any (ha wa : Option Addr) (hc wc : Nat) (h wt : List Lk) (x : Lk) (w : World) (hv : Ls 0 w.heap.size w (.slice ha h.length hc) h) :
    Calls Try.prog 22 #[tabV ha wa h.length hc wt.length wc, .agg x.cellsL.toArray] w fun e w' => ∃ bT bL bU, e = .returned (.func (.func 40) #[] #[.pointer (some ⟨bT, 0, none⟩), .pointer (some ⟨bL, 0, none⟩), .pointer (some ⟨bU, 0, none⟩)]) ∧
      Mem w w' [.blk bU #[.bool (holdsV h x.pl != 0)] 4, .blk bL x.cellsL.toArray 37, .blk bT #[.slice ha h.length hc, .slice wa wt.length wc] 30] := by
  have M := Mem.start w
  refine calls_enter Try.func22 rfl 14 rfl rfl ?_; intro a S
  refine nxD ?_
  refine st_box S M rfl rfl rfl #[_, _] rfl ?_; clear S M a; intro a w1 bT S M hB
  refine st_box S M rfl rfl rfl #[_, _, _, _, _] rfl ?_; clear S M a; intro a w2 bL S M hB
  refine st_go [1] S rfl (by kernel_rfl) ?_; clear S a; intro a S
  refine nxA ?_
  refine st_y S rfl rfl rfl (y_loadAgg (cs := [_, _]) S (by kernel_rfl) rfl rfl (M.cellsAt (k := 2) 1 rfl rfl)) ?_; clear S a; intro a S
  refine st_go [1] S rfl (by kernel_rfl) ?_; clear S a; intro a S
  refine st_y S rfl rfl rfl (y_loadAgg (cs := [_, _, _]) S (by kernel_rfl) rfl rfl (M.cellsAt (k := 3) 0 rfl rfl)) ?_; clear S a; intro a S
  refine st_run [4, 1] S M rfl (by kernel_rfl) ?_; clear S a; intro a S
  refine st_call (xs := [(Operand.tmp 6), (Operand.tmp 8), (Operand.tmp 10)]) S (enters_of Try.func8 (by decide) rfl) rfl rfl rfl (holds_any ha wa hc _ wc h x.name x.block _ (M.argW hv)) ?_
  rintro _ w3 ⟨rfl, hK⟩; refine ⟨_, rfl, ?_⟩; clear S a; intro a S; replace M := M.grow hK
  refine st_go [1] S rfl (by kernel_rfl) ?_; clear S a; intro a S
  refine st_alloc S M rfl rfl #[.bool false] (by kernel_rfl) ?_; clear S M a; intro a w4 bU S M hB
  refine st_store (sz := 1) (us := [_]) S M 0 rfl (by kernel_rfl) rfl rfl rfl rfl rfl rfl (by first | decide | (simp; done) | (simp; omega)) ?_; clear M; intro w5 M
  simp only [putL, List.set_cons_zero, List.set_cons_succ, Nat.reduceAdd] at M
  refine nxA ?_
  refine st_y S rfl rfl rfl (y_makeFunc (fs := []) (cs := [(Operand.tmp 2), (Operand.tmp 3), (Operand.tmp 5)]) S rfl rfl) ?_; clear S a; intro a S
  refine st_go [1] S rfl (by kernel_rfl) ?_; clear S a; intro a S
  refine nxC ?_
  refine wp_ret ?_
  refine end_one S rfl (res_tmp rfl) ?_
  exact ⟨bT, bL, bU, rfl, M⟩
set_option maxHeartbeats 1000000 in
theorem appendSeq_any {gf : FuncId} {lb : List Value} {xs : List Nm} {C : World → Prop} (hE : Enters Try.prog gf) (G : Gen Try.prog gf lb encN xs C) (w : World) (hC : ∀ W, Below w.heap.size w W → C W) (hl : xs.length ≤ 1000000) :
    Calls Try.prog 39 #[.slice none 0 0, .func (.func gf) #[] lb.toArray] w fun e w' => ∃ va vc lo hi, e = .returned (.slice va xs.length vc) ∧ Mem w w' [rowE lo hi 23 3 (.slice va xs.length vc) xs.length (nmcells xs)] := by
  have M := Mem.start w
  refine calls_enterM Try.func39 rfl 13 rfl rfl ?_; intro a S
  refine nxD ?_
  refine st_box S M rfl rfl rfl #[_] rfl ?_; clear S M a; intro a w1 bB S M hB
  refine st_go [1] S rfl (by kernel_rfl) ?_; clear S a; intro a S
  refine nxC ?_
  refine wp_seq ?_
  refine nxD ?_
  refine st_go [1] S rfl (by kernel_rfl) ?_; clear S a; intro a S
  refine nxC ?_
  refine wp_block ?_
  replace M := M.rowNil 23 3
  refine wp_range (encs := encN) (xs := xs) S M rfl (hE) (G) (fun _ => rfl) (by kernel_rfl) (fun pre Hs => ∃ va vc lo hi, Hs = [rowE lo hi 23 3 (.slice va pre.length vc) pre.length (nmcells pre), .blk bB #[.slice va pre.length vc] 61]) (⟨none, 0, _, _, rfl⟩) (fun pre Hs W _ M => hC W M.below) ?_ ?_
  · intro lY pre x tX Hs wr BK a hx hI M S
    simp only [putsL, encN] at S
    obtain ⟨va, vc, lo, hi, rfl⟩ := hI
    have hpl : pre.length < xs.length := by rw [hx]; simp
    refine wpI_region (by kernel_rfl) (fun _ _ h => h) ?_
    refine st_alloc S M rfl rfl #[.int .i64 0, .int .i64 0, .int .i64 0] (by kernel_rfl) ?_; clear S M a; intro a w2 bQ S M hB
    refine st_store (sz := 3) (us := [_, _, _]) S M 0 rfl (by kernel_rfl) rfl rfl rfl rfl rfl rfl (by first | decide | (simp; done) | (simp; omega)) ?_; clear M; intro w3 M
    simp only [putL, List.set_cons_zero, List.set_cons_succ, Nat.reduceAdd] at M
    refine nxC ?_
    replace M := M.front 1 rfl
    simp only [List.eraseIdx_cons_succ, List.eraseIdx_cons_zero] at M
    refine ⟨_, M, ?_⟩; clear M; intro wb BK M
    refine wpIn_block ?_
    refine wpI_region (by kernel_rfl) (fun _ _ h => h) ?_
    refine st_run [4] S M rfl (by kernel_rfl) ?_; clear S a; intro a S
    refine st_y S rfl rfl rfl (y_loadAgg (cs := [_, _, _]) S (by kernel_rfl) rfl rfl (M.cellsAt (k := 3) 1 rfl rfl)) ?_; clear S a; intro a S
    refine st_lit (ps := [(0, (Operand.tmp 9))]) (e := 23) (sz := 3) (zl := [.int .i64 0, .int .i64 0, .int .i64 0]) (cs := [_, _, _]) S M rfl rfl (by kernel_rfl) rfl (rfl) ?_; clear S M a; intro a w4 bZ S M hB
    refine st_append (e := 23) (sz := 3) (by_ := 24) (zc := [.int .i64 0, .int .i64 0, .int .i64 0]) S M 3 rfl rfl (by kernel_rfl) rfl (by decide) rfl rfl rfl (show Rd _ _ _ 3 _ 1 x.cells.toList from M.sliceAt 0 rfl (M.cellsAt (k := 3) 0 rfl rfl) rfl (Nat.le_refl _) (by unfold maxLen; omega)) (rfl) (by omega) (by unfold maxLen; omega) ?_; clear S M a; intro a w5 vA loA hiA S M
    obtain ⟨aA, cA, rfl, -, -⟩ := (M.readAll 0 rfl (by unfold maxLen; omega)).form
    refine st_store (sz := 1) (us := [_]) S M 4 rfl (by kernel_rfl) rfl rfl rfl rfl rfl rfl (by first | decide | (simp; done) | (simp; omega)) ?_; clear M; intro w6 M
    simp only [putL, List.set_cons_zero, List.set_cons_succ, Nat.reduceAdd] at M
    refine wpList_nil ?_
    refine block_normal ?_
    replace M := M.front 2 rfl
    simp only [List.eraseIdx_cons_succ, List.eraseIdx_cons_zero] at M
    skip
    replace M := M.drop 2
    simp only [List.eraseIdx_cons_succ, List.eraseIdx_cons_zero] at M
    replace M := M.drop 2
    simp only [List.eraseIdx_cons_succ, List.eraseIdx_cons_zero] at M
    replace M := M.front 2 rfl
    simp only [List.eraseIdx_cons_succ, List.eraseIdx_cons_zero] at M
    replace M := M.front 2 rfl
    simp only [List.eraseIdx_cons_succ, List.eraseIdx_cons_zero] at M
    replace M := M.front 2 rfl
    simp only [List.eraseIdx_cons_succ, List.eraseIdx_cons_zero] at M
    have e1 : (pre ++ [x]).length = pre.length + 1 := by simp
    have e2 : nmcells (pre ++ [x]) = nmcells pre ++ x.cells.toList := by simp [nmcells]
    exact ⟨_, M, aA, cA, loA, hiA, by rw [e1, e2]; rfl⟩
  intro D1 wd Hs a hI M S
  obtain ⟨va, vc, lo, hi, rfl⟩ := hI
  refine block_normal ?_
  refine nxE ?_
  refine st_run [3, 1] S M rfl (by kernel_rfl) ?_; clear S a; intro a S
  refine nxC ?_
  refine wp_ret ?_
  refine end_mark S M 0 rfl ?_; clear S M a; intro a wM S M
  simp only [List.eraseIdx_cons_succ, List.eraseIdx_cons_zero] at M
  refine end_plain ?_
  refine end_one S rfl (res_tmp rfl) ?_
  skip
  replace M := M.drop 1
  simp only [List.eraseIdx_cons_succ, List.eraseIdx_cons_zero] at M
  exact ⟨va, vc, lo, hi, rfl, M⟩
theorem collect_any {gf : FuncId} {lb : List Value} {xs : List Nm} {C : World → Prop} (hE : Enters Try.prog gf) (G : Gen Try.prog gf lb encN xs C) (w : World) (hC : ∀ W, Below w.heap.size w W → C W) (hl : xs.length ≤ 1000000) :
    Calls Try.prog 21 #[.func (.func gf) #[] lb.toArray] w fun e w' => ∃ va vc lo hi, e = .returned (.slice va xs.length vc) ∧ Mem w w' [rowE lo hi 23 3 (.slice va xs.length vc) xs.length (nmcells xs)] := by
  have M := Mem.start w
  refine calls_enter Try.func21 rfl 5 rfl rfl ?_; intro a S
  refine nxD ?_
  refine st_go [1] S rfl (by kernel_rfl) ?_; clear S a; intro a S
  refine nxA ?_
  refine st_go [1] S rfl (by kernel_rfl) ?_; clear S a; intro a S
  refine st_call (xs := [(Operand.const (Value.slice none 0 0)), (Operand.tmp 3)]) S (enters_of Try.func39 (by decide) rfl) rfl rfl rfl (appendSeq_any hE G _ (fun W hW => hC W (M.below.trans (hW.mono M.below.size))) hl) ?_
  rintro _ w1 ⟨va, vc, lo, hi, rfl, M1⟩; refine ⟨_, rfl, ?_⟩; clear S a; intro a S; replace M := M.join M1; clear M1
  refine st_go [1] S rfl (by kernel_rfl) ?_; clear S a; intro a S
  refine nxC ?_
  refine wp_ret ?_
  refine end_one S rfl (res_tmp rfl) ?_
  exact ⟨va, vc, lo, hi, rfl, M⟩

end Go.Proofs.Ytcbofgcmfkcglaa
