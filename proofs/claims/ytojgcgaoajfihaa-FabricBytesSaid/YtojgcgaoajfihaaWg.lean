/-
  Package wire: how a message's fields are taken.
-/
import Derived.Test.YtojgcgaoajfihaaWp
import Derived.Test.YtojgcgaoajfihaaGX
namespace Go.Proofs.Ytojgcgaoajfihaa
open Go.RowKit Go.Sort

/-- what is left, read from a slice -/
abbrev lfE (lo hi : Nat) (bv : Value) (l : List UInt8) : Ent := .own lo hi (fun w => Bs lo hi w bv l)
abbrev rdrC (bv : Value) (sh : Bool) : Array Value := #[bv, .bool sh]
def TkPost (k : Nat) (s : Lf) (wc : World) (bf lo hi : Nat) (H : List Ent) (e : Ending) (w' : World) : Prop :=
  ∃ v bv', e = .returned v ∧ Mem wc w' (.blk bf (rdrC bv' (tkW k s).2.2) 105 :: lfE lo hi bv' (tkW k s).2.1 :: H) ∧ Bs 0 w'.heap.size w' v (tkW k s).1
theorem bcells_take (l : List UInt8) (k : Nat) : bcells (l.take k) = (bcells l).take k := by simp [bcells, List.map_take]
theorem bcells_drop (l : List UInt8) (k : Nat) : bcells (l.drop k) = (bcells l).drop k := by simp [bcells, List.map_drop]
theorem takeW_any {wc w : World} {H : List Ent} {bf lo hi : Nat} {bv : Value} {sh : Bool} {l : List UInt8} (M : Mem wc w (.blk bf (rdrC bv sh) 105 :: lfE lo hi bv l :: H)) (k : Nat) (hk : k ≤ 8) :
    Calls Try.prog 74 #[.pointer (some ⟨bf, 0, none⟩), .int .i64 (k : Int)] w (TkPost k (l, sh) wc bf lo hi H) := by
  obtain ⟨ad, cap, rfl, hc1, hc2⟩ := (M.own 1 rfl).form
  refine calls_enter Try.func74 rfl 38 rfl rfl ?_; intro a S
  refine wp_seq ?_
  skip
  refine wp_region_lit ?_
  refine st_go [1] S rfl (by kernel_rfl) ?_; clear S a; intro a S
  refine nxC ?_
  refine wp_seq ?_
  refine nxD ?_
  refine st_run [1, 1, 1, 1] S M rfl (by kernel_rfl) ?_; clear S a; intro a S
  refine st_y S rfl rfl rfl (y_lenS (E := 5) S rfl (by kernel_rfl)) ?_; clear S a; intro a S
  refine st_go [1, 1] S rfl (by kernel_rfl) ?_; clear S a; intro a S
  refine nxC ?_
  refine st_if (t := 12) S rfl ?_ ?_
  · clear S; intro h12 S
    refine st_condT S rfl ?_
    refine nxD ?_
    refine st_go [1, 1, 1, 1] S rfl (by kernel_rfl) ?_; clear S a; intro a S
    refine st_store (sz := 1) (us := [_]) S M 0 rfl (by kernel_rfl) rfl rfl rfl rfl rfl rfl (by first | decide | (simp; done) | (simp; omega)) ?_; clear M; intro w1 M
    simp only [putL, List.set_cons_zero, List.set_cons_succ, Nat.reduceAdd] at M
    refine st_go [1, 2] S rfl (by kernel_rfl) ?_; clear S a; intro a S
    refine st_store (sz := 1) (us := [_]) S M 0 rfl (by kernel_rfl) rfl rfl rfl rfl rfl rfl (by first | decide | (simp; done) | (simp; omega)) ?_; clear M; intro w2 M
    simp only [putL, List.set_cons_zero, List.set_cons_succ, Nat.reduceAdd] at M
    refine nxA ?_
    refine st_go [1] S rfl (by kernel_rfl) ?_; clear S a; intro a S
    refine st_make (e := 5) (sz := 1) (by_ := 1) (zc := [.int .u8 0]) S M rfl rfl (by kernel_rfl) rfl rfl (by omega) (by omega) (by omega) (by omega) ?_; clear S M a; intro a w3 bN S M hB
    try simp only [Int.toNat_natCast, Int.reduceToNat, Nat.reduceMul] at S M
    rw [madeL_bytes] at M
    refine st_y S rfl rfl rfl (y_assign S rfl) ?_; clear S a; intro a S
    replace S := S.sub [(0, _), (1, _), (12, _), (4, _)] rfl
    refine nxC ?_
    refine wp_ret ?_
    refine then_ret ?_
    refine end_one S rfl (res_tmp rfl) ?_
    have hlt : l.length < k := by omega
    have hB := M.blk 0 rfl
    have hR : Bs 0 w3.heap.size w3 (.slice (some ⟨bN, 0, none⟩) k k) (List.replicate k 0) := by
      have := Rd.of_blk (sz := 1) (m := k) (cap := k) (xs := bcells (List.replicate k 0)) hB (by simp [bcells]) (Nat.le_refl _) (by unfold maxLen; omega) (by simp [bcells])
      have hf := M.fits _ (List.mem_cons_self ..)
      rw [Bs, List.length_replicate]
      exact this.wide (Nat.zero_le _) hf.2
    refine ⟨_, .slice none 0 0, rfl, ?_, ?_⟩
    · unfold tkW; rw [if_pos hlt]
      replace M := (M.drop 0).front 1 rfl
      exact ((M.ownMono (ψ := fun w => Bs lo hi w (.slice none 0 0) []) fun w _ => Rd.nil _ _ _ _).front 1 rfl)
    · unfold tkW; rw [if_pos hlt]; exact hR
  clear S; intro h12 S
  refine st_condF S rfl ?_
  refine wp_skip ?_
  refine then_normal ?_
  refine wp_seq ?_
  have hge : k ≤ l.length := by omega
  refine wp_region_lit ?_
  refine st_run [1, 1, 1, 1, 1, 1] S M rfl (by kernel_rfl) ?_; clear S a; intro a S
  refine st_y S rfl rfl rfl (y_slice03 (e := 5) (sz := 1) S (by kernel_rfl) rfl rfl rfl (by first | omega | (simp; done) | (simp; omega))) ?_; clear S a; intro a S
  rw [Int.toNat_natCast] at S
  refine st_y S rfl rfl rfl (y_assign S rfl) ?_; clear S a; intro a S
  refine nxA ?_
  refine st_run [1, 1, 1, 1, 1, 1] S M rfl (by kernel_rfl) ?_; clear S a; intro a S
  refine st_y S rfl rfl rfl (y_slice1 (e := 5) (sz := 1) S (by kernel_rfl) rfl rfl (by first | omega | (simp; done) | (simp; omega))) ?_; clear S a; intro a S
  rw [Int.toNat_natCast] at S
  refine st_y S rfl rfl rfl (y_nilCheck S rfl) ?_; clear S a; intro a S
  refine st_go [1] S rfl (by kernel_rfl) ?_; clear S a; intro a S
  refine st_store (sz := 1) (us := [_]) S M 0 rfl (by kernel_rfl) rfl rfl rfl rfl rfl rfl (by first | decide | (simp; done) | (simp; omega)) ?_; clear M; intro w4 M
  simp only [putL, List.set_cons_zero, List.set_cons_succ, Nat.reduceAdd] at M
  replace S := S.sub [(0, _), (1, _), (4, _), (12, _), (5, _)] rfl
  refine nxA ?_
  refine st_go [1, 1] S rfl (by kernel_rfl) ?_; clear S a; intro a S
  refine nxC ?_
  refine wp_ret ?_
  refine end_one S rfl (res_tmp rfl) ?_
  have hL := M.own 1 rfl
  have hf := M.fits (lfE lo hi (.slice ad l.length cap) l) (by simp)
  have h1 := hL.cut (i := 0) (j := k) (mx := k) (Nat.zero_le _) hge (Nat.le_refl _) (by omega)
  have h2 : ∀ w, Bs lo hi w (.slice ad l.length cap) l → Bs lo hi w (.slice (subA ad k cap 1) (l.length - k) (cap - k)) (l.drop k) := fun w h => by
    have := h.cut (i := k) (j := l.length) (mx := cap) hge (Nat.le_refl _) hc1 (Nat.le_refl _)
    rw [Bs, List.length_drop, bcells_drop]
    rw [Nat.mul_one, Nat.mul_one, List.take_of_length_le (by rw [List.length_drop, bcells_length]; omega)] at this
    exact this
  refine ⟨_, .slice (subA ad k cap 1) (l.length - k) (cap - k), rfl, ?_, ?_⟩
  · unfold tkW; rw [if_neg (by simp; omega)]
    exact (((M.front 1 rfl).ownMono h2).front 1 rfl)
  · unfold tkW; rw [if_neg (by simp; omega)]
    rw [Bs, List.length_take, Nat.min_eq_left hge, bcells_take]
    rw [Nat.mul_one, Nat.zero_mul, List.drop_zero, Nat.sub_zero, show subA ad 0 k 1 = ad by unfold subA; split <;> cases ad <;> simp [Addr.add]] at h1
    exact h1.wide (Nat.zero_le _) hf.2
def NmPost (kd : IntKind) (k : Nat) (s : Lf) (wc : World) (bf lo hi : Nat) (H : List Ent) (e : Ending) (w' : World) : Prop :=
  ∃ bv', e = .returned (.int kd (kd.wrap (nmW k s).1)) ∧ Mem wc w' (.blk bf (rdrC bv' (nmW k s).2.2) 105 :: lfE lo hi bv' (nmW k s).2.1 :: H)
theorem nmW_bd (k : Nat) (s : Lf) : 0 ≤ (nmW k s).1 ∧ (nmW k s).1 < 256 ^ k := by
  unfold nmW
  have := leN_lt (tkW k s).1
  rw [tkW_len] at this
  refine ⟨by simp only; omega, ?_⟩
  have h2 : ((leN (tkW k s).1 : Nat) : Int) < ((256 ^ k : Nat) : Int) := by omega
  simpa using h2
theorem nmW_i64 {k : Nat} (s : Lf) (hk : k ≤ 3) : IntKind.i64.wrap (nmW k s).1 = (nmW k s).1 := by
  have h := nmW_bd k s
  have h2 : (256 : Int) ^ k ≤ 256 ^ 3 := by
    have := Nat.pow_le_pow_right (n := 256) (by omega) hk
    have e : (256 : Int) ^ k = ((256 ^ k : Nat) : Int) := by simp
    rw [e]; have : ((256 ^ k : Nat) : Int) ≤ ((256 ^ 3 : Nat) : Int) := Int.ofNat_le.2 this
    simpa using this
  exact IntWalk.i64_in _ (by omega)
set_option maxHeartbeats 1000000 in
theorem numI_any {wc w : World} {H : List Ent} {bf lo hi : Nat} {bv : Value} {sh : Bool} {l : List UInt8} (M : Mem wc w (.blk bf (rdrC bv sh) 105 :: lfE lo hi bv l :: H)) (k : Nat) (hk : k ≤ 3) :
    Calls Try.prog 66 #[.pointer (some ⟨bf, 0, none⟩), .int .i64 (k : Int)] w (NmPost .i64 k (l, sh) wc bf lo hi H) := by
  refine calls_enter Try.func66 rfl 26 rfl rfl ?_; intro a S
  refine wp_seq ?_
  skip
  refine wp_region_lit ?_
  refine st_go [1] S rfl (by kernel_rfl) ?_; clear S a; intro a S
  refine nxA ?_
  refine st_go [1] S rfl (by kernel_rfl) ?_; clear S a; intro a S
  refine nxC ?_
  refine wp_seq ?_
  refine nxD ?_
  refine st_go [1, 1] S rfl (by kernel_rfl) ?_; clear S a; intro a S
  refine st_call (xs := [(Operand.tmp 8), (Operand.tmp 9)]) S (enters_of Try.func74 (by decide) rfl) rfl rfl rfl (takeW_any M k (by omega)) ?_
  rintro _ w1 ⟨v, bv', rfl, M1, hT⟩; refine ⟨_, rfl, ?_⟩; clear S a; intro a S; replace M := M1
  obtain ⟨t, ht⟩ : ∃ t, tkW k (l, sh) = t := ⟨_, rfl⟩
  have htl : t.1.length = k := by rw [← ht, tkW_len]
  rw [ht] at M hT
  rw [Bs, htl] at hT
  refine st_y S rfl rfl rfl (y_lenR (E := 5) S rfl (hT) (by kernel_rfl)) ?_; clear S a; intro a S
  refine st_go [1] S rfl (by kernel_rfl) ?_; clear S a; intro a S
  refine nxC ?_
  refine wp_block ?_
  refine wp_loop_g (fun m a w' => ∃ (j : Nat), j ≤ k ∧ m = k - j ∧ Sees 26 a [(5, .int .i64 ((leN (t.1.take j) : Nat) : Int)), (10, v), (11, .int .i64 (k : Int)), (12, .int .i64 (j : Int))] ∧ Mem wc w' (.blk bf (rdrC bv' t.2.2) 105 :: lfE lo hi bv' t.2.1 :: H) ∧ Rd 0 w'.heap.size w' 1 v k (bcells t.1)) (k) ?_ ?_
  · skip
    exact ⟨0, Nat.zero_le _, rfl, S.sub _ rfl, M, hT⟩
  clear S M a; intro m a wl
  clear hT M1
  rintro ⟨j, hj, rfl, S, M, hT⟩
  refine nxD ?_
  refine st_go [1] S rfl (by kernel_rfl) ?_; clear S a; intro a S
  refine nxC ?_
  refine wp_seq ?_
  refine st_fi (t := 13) S rfl ?_ ?_
  · clear S; intro h13 S
    refine st_condF S rfl ?_
    refine wp_exit ?_
    refine then_exit ?_
    refine then_exit ?_
    refine block_hit ?_
    refine nxE ?_
    refine st_go [1, 1] S rfl (by kernel_rfl) ?_; clear S a; intro a S
    refine nxC ?_
    refine wp_ret ?_
    refine end_one S rfl (res_tmp rfl) ?_
    obtain rfl : j = k := by omega
    refine ⟨bv', ?_, ?_⟩
    · rw [nmW_i64 _ hk]
      unfold nmW; rw [ht, ← htl, List.take_length]
    · unfold nmW; rw [ht]; exact M
  clear S; intro h13 S
  refine st_condT S rfl ?_
  refine wp_skip ?_
  refine then_normal ?_
  refine wp_seq ?_
  refine wp_block ?_
  refine nxD ?_
  refine st_go [1] S rfl (by kernel_rfl) ?_; clear S a; intro a S
  obtain ⟨x, hx⟩ : ∃ x, t.1[j]? = some x := ⟨_, List.getElem?_eq_getElem (by omega)⟩
  have hT' : Bs 0 wl.heap.size wl v t.1 := by rw [Bs, htl]; exact hT
  refine st_y S rfl rfl rfl (y_indexR (e := 5) (sz := 1) S (by kernel_rfl) rfl (hT) rfl (by first | omega | (simp; done) | (simp; omega))) ?_; clear S a; intro a S
  try simp only [Int.toNat_natCast, Nat.mul_one, Nat.zero_add] at S
  refine st_y S rfl rfl rfl (y_load S (by kernel_rfl) rfl (hT'.byte (i := j) hx)) ?_; clear S a; intro a S
  refine st_go [1, 1] S rfl (by kernel_rfl) ?_; clear S a; intro a S
  refine nxB ?_
  obtain ⟨hs1, hs2⟩ := sh_bd x j (by omega)
  have hx256 : x.toNat < 256 := UInt8.toNat_lt x
  have hl1 := leN_lt (t.1.take j)
  have hl2 : leN (t.1.take j) < 2 ^ 40 := Nat.lt_of_lt_of_le hl1 (by
    rw [show (256 : Nat) = 2 ^ 8 from rfl, ← Nat.pow_mul]; exact Nat.pow_le_pow_right (by omega) (by simp; omega))
  refine st_y S rfl rfl rfl (y_move S rfl) ?_; clear S a; intro a S
  refine st_go [1] S rfl (by kernel_rfl) ?_; clear S a; intro a S
  (first | refine st_y S rfl rfl rfl (y_to64 S rfl (by kernel_rfl) (by kernel_rfl) (by omega)) ?_ | refine st_y S rfl rfl rfl (y_conv (k' := .i64) S rfl (by kernel_rfl) (by kernel_rfl)) ?_); clear S a; intro a S
  refine st_go [1] S rfl (by kernel_rfl) ?_; clear S a; intro a S
  (first | refine st_y S rfl rfl rfl (y_mulN S rfl rfl (by omega)) ?_ | refine st_y S rfl rfl rfl (y_int S rfl rfl rfl) ?_); clear S a; intro a S
  (first | refine st_y S rfl rfl rfl (y_shlN S rfl rfl (by omega) (by rw [hs1]; omega)) ?_ | refine st_y S rfl rfl rfl (y_shl S rfl rfl (by omega)) ?_); clear S a; intro a S
  rw [hs1] at S
  (first | refine st_y S rfl rfl rfl (y_orN S rfl rfl (by omega) (by omega)) ?_ | refine st_y S rfl rfl rfl (y_int S rfl rfl rfl) ?_); clear S a; intro a S
  refine st_go [1] S rfl (by kernel_rfl) ?_; clear S a; intro a S
  refine wpList_nil ?_
  refine block_normal ?_
  refine nxF ?_
  (first | refine st_y S rfl rfl rfl (y_addN S rfl rfl (by omega)) ?_ | refine st_y S rfl rfl rfl (y_int S rfl rfl rfl) ?_); clear S a; intro a S
  refine st_go [1] S rfl (by kernel_rfl) ?_; clear S a; intro a S
  refine nxC ?_
  refine ⟨k - (j + 1), by omega, j + 1, by omega, rfl, ?_, M, hT⟩
  rw [← leN_snoc hx]; exact S.sub _ rfl
set_option maxHeartbeats 1000000 in
theorem num8_any {wc w : World} {H : List Ent} {bf lo hi : Nat} {bv : Value} {sh : Bool} {l : List UInt8} (M : Mem wc w (.blk bf (rdrC bv sh) 105 :: lfE lo hi bv l :: H)) (k : Nat) (hk : k ≤ 3) :
    Calls Try.prog 65 #[.pointer (some ⟨bf, 0, none⟩), .int .i64 (k : Int)] w (NmPost .i8 k (l, sh) wc bf lo hi H) := by
  refine calls_enter Try.func65 rfl 27 rfl rfl ?_; intro a S
  refine wp_seq ?_
  skip
  refine wp_region_lit ?_
  refine st_go [1] S rfl (by kernel_rfl) ?_; clear S a; intro a S
  refine nxA ?_
  refine st_go [1] S rfl (by kernel_rfl) ?_; clear S a; intro a S
  refine nxC ?_
  refine wp_seq ?_
  refine nxD ?_
  refine st_go [1, 1] S rfl (by kernel_rfl) ?_; clear S a; intro a S
  refine st_call (xs := [(Operand.tmp 8), (Operand.tmp 9)]) S (enters_of Try.func74 (by decide) rfl) rfl rfl rfl (takeW_any M k (by omega)) ?_
  rintro _ w1 ⟨v, bv', rfl, M1, hT⟩; refine ⟨_, rfl, ?_⟩; clear S a; intro a S; replace M := M1
  obtain ⟨t, ht⟩ : ∃ t, tkW k (l, sh) = t := ⟨_, rfl⟩
  have htl : t.1.length = k := by rw [← ht, tkW_len]
  rw [ht] at M hT
  rw [Bs, htl] at hT
  refine st_y S rfl rfl rfl (y_lenR (E := 5) S rfl (hT) (by kernel_rfl)) ?_; clear S a; intro a S
  refine st_go [1] S rfl (by kernel_rfl) ?_; clear S a; intro a S
  refine nxC ?_
  refine wp_block ?_
  refine wp_loop_g (fun m a w' => ∃ (j : Nat), j ≤ k ∧ m = k - j ∧ Sees 27 a [(5, .int .i64 ((leN (t.1.take j) : Nat) : Int)), (10, v), (11, .int .i64 (k : Int)), (12, .int .i64 (j : Int))] ∧ Mem wc w' (.blk bf (rdrC bv' t.2.2) 105 :: lfE lo hi bv' t.2.1 :: H) ∧ Rd 0 w'.heap.size w' 1 v k (bcells t.1)) (k) ?_ ?_
  · skip
    exact ⟨0, Nat.zero_le _, rfl, S.sub _ rfl, M, hT⟩
  clear S M a; intro m a wl
  clear hT M1
  rintro ⟨j, hj, rfl, S, M, hT⟩
  refine nxD ?_
  refine st_go [1] S rfl (by kernel_rfl) ?_; clear S a; intro a S
  refine nxC ?_
  refine wp_seq ?_
  refine st_fi (t := 13) S rfl ?_ ?_
  · clear S; intro h13 S
    refine st_condF S rfl ?_
    refine wp_exit ?_
    refine then_exit ?_
    refine then_exit ?_
    refine block_hit ?_
    refine nxE ?_
    refine st_go [1] S rfl (by kernel_rfl) ?_; clear S a; intro a S
    refine st_y S rfl rfl rfl (y_conv (k' := .i8) S rfl (by kernel_rfl) (by kernel_rfl)) ?_; clear S a; intro a S
    refine st_go [1] S rfl (by kernel_rfl) ?_; clear S a; intro a S
    refine nxC ?_
    refine wp_ret ?_
    refine end_one S rfl (res_tmp rfl) ?_
    obtain rfl : j = k := by omega
    refine ⟨bv', ?_, ?_⟩
    · rw [show IntKind.i8.wrap (nmW j (l, sh)).1 = IntKind.i8.wrap (nmW j (l, sh)).1 from rfl]
      unfold nmW; rw [ht, ← htl, List.take_length]
    · unfold nmW; rw [ht]; exact M
  clear S; intro h13 S
  refine st_condT S rfl ?_
  refine wp_skip ?_
  refine then_normal ?_
  refine wp_seq ?_
  refine wp_block ?_
  refine nxD ?_
  refine st_go [1] S rfl (by kernel_rfl) ?_; clear S a; intro a S
  obtain ⟨x, hx⟩ : ∃ x, t.1[j]? = some x := ⟨_, List.getElem?_eq_getElem (by omega)⟩
  have hT' : Bs 0 wl.heap.size wl v t.1 := by rw [Bs, htl]; exact hT
  refine st_y S rfl rfl rfl (y_indexR (e := 5) (sz := 1) S (by kernel_rfl) rfl (hT) rfl (by first | omega | (simp; done) | (simp; omega))) ?_; clear S a; intro a S
  try simp only [Int.toNat_natCast, Nat.mul_one, Nat.zero_add] at S
  refine st_y S rfl rfl rfl (y_load S (by kernel_rfl) rfl (hT'.byte (i := j) hx)) ?_; clear S a; intro a S
  refine st_go [1, 1] S rfl (by kernel_rfl) ?_; clear S a; intro a S
  refine nxB ?_
  obtain ⟨hs1, hs2⟩ := sh_bd x j (by omega)
  have hx256 : x.toNat < 256 := UInt8.toNat_lt x
  have hl1 := leN_lt (t.1.take j)
  have hl2 : leN (t.1.take j) < 2 ^ 40 := Nat.lt_of_lt_of_le hl1 (by
    rw [show (256 : Nat) = 2 ^ 8 from rfl, ← Nat.pow_mul]; exact Nat.pow_le_pow_right (by omega) (by simp; omega))
  refine st_y S rfl rfl rfl (y_move S rfl) ?_; clear S a; intro a S
  refine st_go [1] S rfl (by kernel_rfl) ?_; clear S a; intro a S
  (first | refine st_y S rfl rfl rfl (y_to64 S rfl (by kernel_rfl) (by kernel_rfl) (by omega)) ?_ | refine st_y S rfl rfl rfl (y_conv (k' := .i64) S rfl (by kernel_rfl) (by kernel_rfl)) ?_); clear S a; intro a S
  refine st_go [1] S rfl (by kernel_rfl) ?_; clear S a; intro a S
  (first | refine st_y S rfl rfl rfl (y_mulN S rfl rfl (by omega)) ?_ | refine st_y S rfl rfl rfl (y_int S rfl rfl rfl) ?_); clear S a; intro a S
  (first | refine st_y S rfl rfl rfl (y_shlN S rfl rfl (by omega) (by rw [hs1]; omega)) ?_ | refine st_y S rfl rfl rfl (y_shl S rfl rfl (by omega)) ?_); clear S a; intro a S
  rw [hs1] at S
  (first | refine st_y S rfl rfl rfl (y_orN S rfl rfl (by omega) (by omega)) ?_ | refine st_y S rfl rfl rfl (y_int S rfl rfl rfl) ?_); clear S a; intro a S
  refine st_go [1] S rfl (by kernel_rfl) ?_; clear S a; intro a S
  refine wpList_nil ?_
  refine block_normal ?_
  refine nxF ?_
  (first | refine st_y S rfl rfl rfl (y_addN S rfl rfl (by omega)) ?_ | refine st_y S rfl rfl rfl (y_int S rfl rfl rfl) ?_); clear S a; intro a S
  refine st_go [1] S rfl (by kernel_rfl) ?_; clear S a; intro a S
  refine nxC ?_
  refine ⟨k - (j + 1), by omega, j + 1, by omega, rfl, ?_, M, hT⟩
  rw [← leN_snoc hx]; exact S.sub _ rfl
set_option maxHeartbeats 1000000 in
theorem numE_any {wc w : World} {H : List Ent} {bf lo hi : Nat} {bv : Value} {sh : Bool} {l : List UInt8} (M : Mem wc w (.blk bf (rdrC bv sh) 105 :: lfE lo hi bv l :: H)) (k : Nat) (hk : k ≤ 3) :
    Calls Try.prog 75 #[.pointer (some ⟨bf, 0, none⟩), .int .i64 (k : Int)] w (NmPost .i64 k (l, sh) wc bf lo hi H) := by
  refine calls_enter Try.func75 rfl 26 rfl rfl ?_; intro a S
  refine wp_seq ?_
  skip
  refine wp_region_lit ?_
  refine st_go [1] S rfl (by kernel_rfl) ?_; clear S a; intro a S
  refine nxA ?_
  refine st_go [1] S rfl (by kernel_rfl) ?_; clear S a; intro a S
  refine nxC ?_
  refine wp_seq ?_
  refine nxD ?_
  refine st_go [1, 1] S rfl (by kernel_rfl) ?_; clear S a; intro a S
  refine st_call (xs := [(Operand.tmp 8), (Operand.tmp 9)]) S (enters_of Try.func74 (by decide) rfl) rfl rfl rfl (takeW_any M k (by omega)) ?_
  rintro _ w1 ⟨v, bv', rfl, M1, hT⟩; refine ⟨_, rfl, ?_⟩; clear S a; intro a S; replace M := M1
  obtain ⟨t, ht⟩ : ∃ t, tkW k (l, sh) = t := ⟨_, rfl⟩
  have htl : t.1.length = k := by rw [← ht, tkW_len]
  rw [ht] at M hT
  rw [Bs, htl] at hT
  refine st_y S rfl rfl rfl (y_lenR (E := 5) S rfl (hT) (by kernel_rfl)) ?_; clear S a; intro a S
  refine st_go [1] S rfl (by kernel_rfl) ?_; clear S a; intro a S
  refine nxC ?_
  refine wp_block ?_
  refine wp_loop_g (fun m a w' => ∃ (j : Nat), j ≤ k ∧ m = k - j ∧ Sees 26 a [(5, .int .i64 ((leN (t.1.take j) : Nat) : Int)), (10, v), (11, .int .i64 (k : Int)), (12, .int .i64 (j : Int))] ∧ Mem wc w' (.blk bf (rdrC bv' t.2.2) 105 :: lfE lo hi bv' t.2.1 :: H) ∧ Rd 0 w'.heap.size w' 1 v k (bcells t.1)) (k) ?_ ?_
  · skip
    exact ⟨0, Nat.zero_le _, rfl, S.sub _ rfl, M, hT⟩
  clear S M a; intro m a wl
  clear hT M1
  rintro ⟨j, hj, rfl, S, M, hT⟩
  refine nxD ?_
  refine st_go [1] S rfl (by kernel_rfl) ?_; clear S a; intro a S
  refine nxC ?_
  refine wp_seq ?_
  refine st_fi (t := 13) S rfl ?_ ?_
  · clear S; intro h13 S
    refine st_condF S rfl ?_
    refine wp_exit ?_
    refine then_exit ?_
    refine then_exit ?_
    refine block_hit ?_
    refine nxE ?_
    refine st_go [1, 1] S rfl (by kernel_rfl) ?_; clear S a; intro a S
    refine nxC ?_
    refine wp_ret ?_
    refine end_one S rfl (res_tmp rfl) ?_
    obtain rfl : j = k := by omega
    refine ⟨bv', ?_, ?_⟩
    · rw [nmW_i64 _ hk]
      unfold nmW; rw [ht, ← htl, List.take_length]
    · unfold nmW; rw [ht]; exact M
  clear S; intro h13 S
  refine st_condT S rfl ?_
  refine wp_skip ?_
  refine then_normal ?_
  refine wp_seq ?_
  refine wp_block ?_
  refine nxD ?_
  refine st_go [1] S rfl (by kernel_rfl) ?_; clear S a; intro a S
  obtain ⟨x, hx⟩ : ∃ x, t.1[j]? = some x := ⟨_, List.getElem?_eq_getElem (by omega)⟩
  have hT' : Bs 0 wl.heap.size wl v t.1 := by rw [Bs, htl]; exact hT
  refine st_y S rfl rfl rfl (y_indexR (e := 5) (sz := 1) S (by kernel_rfl) rfl (hT) rfl (by first | omega | (simp; done) | (simp; omega))) ?_; clear S a; intro a S
  try simp only [Int.toNat_natCast, Nat.mul_one, Nat.zero_add] at S
  refine st_y S rfl rfl rfl (y_load S (by kernel_rfl) rfl (hT'.byte (i := j) hx)) ?_; clear S a; intro a S
  refine st_go [1, 1] S rfl (by kernel_rfl) ?_; clear S a; intro a S
  refine nxB ?_
  obtain ⟨hs1, hs2⟩ := sh_bd x j (by omega)
  have hx256 : x.toNat < 256 := UInt8.toNat_lt x
  have hl1 := leN_lt (t.1.take j)
  have hl2 : leN (t.1.take j) < 2 ^ 40 := Nat.lt_of_lt_of_le hl1 (by
    rw [show (256 : Nat) = 2 ^ 8 from rfl, ← Nat.pow_mul]; exact Nat.pow_le_pow_right (by omega) (by simp; omega))
  refine st_y S rfl rfl rfl (y_move S rfl) ?_; clear S a; intro a S
  refine st_go [1] S rfl (by kernel_rfl) ?_; clear S a; intro a S
  (first | refine st_y S rfl rfl rfl (y_to64 S rfl (by kernel_rfl) (by kernel_rfl) (by omega)) ?_ | refine st_y S rfl rfl rfl (y_conv (k' := .i64) S rfl (by kernel_rfl) (by kernel_rfl)) ?_); clear S a; intro a S
  refine st_go [1] S rfl (by kernel_rfl) ?_; clear S a; intro a S
  (first | refine st_y S rfl rfl rfl (y_mulN S rfl rfl (by omega)) ?_ | refine st_y S rfl rfl rfl (y_int S rfl rfl rfl) ?_); clear S a; intro a S
  (first | refine st_y S rfl rfl rfl (y_shlN S rfl rfl (by omega) (by rw [hs1]; omega)) ?_ | refine st_y S rfl rfl rfl (y_shl S rfl rfl (by omega)) ?_); clear S a; intro a S
  rw [hs1] at S
  (first | refine st_y S rfl rfl rfl (y_orN S rfl rfl (by omega) (by omega)) ?_ | refine st_y S rfl rfl rfl (y_int S rfl rfl rfl) ?_); clear S a; intro a S
  refine st_go [1] S rfl (by kernel_rfl) ?_; clear S a; intro a S
  refine wpList_nil ?_
  refine block_normal ?_
  refine nxF ?_
  (first | refine st_y S rfl rfl rfl (y_addN S rfl rfl (by omega)) ?_ | refine st_y S rfl rfl rfl (y_int S rfl rfl rfl) ?_); clear S a; intro a S
  refine st_go [1] S rfl (by kernel_rfl) ?_; clear S a; intro a S
  refine nxC ?_
  refine ⟨k - (j + 1), by omega, j + 1, by omega, rfl, ?_, M, hT⟩
  rw [← leN_snoc hx]; exact S.sub _ rfl

theorem numI_at {wc w : World} {H : List Ent} {bf lo hi : Nat} {bv : Value} {sh : Bool} {l : List UInt8} {K : Int} (k : Nat) (M : Mem wc w (.blk bf (rdrC bv sh) 105 :: lfE lo hi bv l :: H)) (hK : K = (k : Int)) (hk : k ≤ 3) :
    Calls Try.prog 66 #[.pointer (some ⟨bf, 0, none⟩), .int .i64 K] w fun e w' => ∃ bv', e = .returned (.int .i64 (nmW k (l, sh)).1) ∧ Mem wc w' (.blk bf (rdrC bv' (nmW k (l, sh)).2.2) 105 :: lfE lo hi bv' (nmW k (l, sh)).2.1 :: H) := by
  subst hK; refine (numI_any M k hk).mono ?_
  rintro e w' ⟨bv', rfl, M'⟩; rw [nmW_i64 _ hk]; exact ⟨bv', rfl, M'⟩
theorem numE_at {wc w : World} {H : List Ent} {bf lo hi : Nat} {bv : Value} {sh : Bool} {l : List UInt8} {K : Int} (k : Nat) (M : Mem wc w (.blk bf (rdrC bv sh) 105 :: lfE lo hi bv l :: H)) (hK : K = (k : Int)) (hk : k ≤ 3) :
    Calls Try.prog 75 #[.pointer (some ⟨bf, 0, none⟩), .int .i64 K] w fun e w' => ∃ bv', e = .returned (.int .i64 (nmW k (l, sh)).1) ∧ Mem wc w' (.blk bf (rdrC bv' (nmW k (l, sh)).2.2) 105 :: lfE lo hi bv' (nmW k (l, sh)).2.1 :: H) := by
  subst hK; refine (numE_any M k hk).mono ?_
  rintro e w' ⟨bv', rfl, M'⟩; rw [nmW_i64 _ hk]; exact ⟨bv', rfl, M'⟩
theorem num8_at {wc w : World} {H : List Ent} {bf lo hi : Nat} {bv : Value} {sh : Bool} {l : List UInt8} {K : Int} (k : Nat) (M : Mem wc w (.blk bf (rdrC bv sh) 105 :: lfE lo hi bv l :: H)) (hK : K = (k : Int)) (hk : k ≤ 3) :
    Calls Try.prog 65 #[.pointer (some ⟨bf, 0, none⟩), .int .i64 K] w (NmPost .i8 k (l, sh) wc bf lo hi H) := by
  subst hK; exact num8_any M k hk
theorem takeW_at {wc w : World} {H : List Ent} {bf lo hi : Nat} {bv : Value} {sh : Bool} {l : List UInt8} {K : Int} (k : Nat) (M : Mem wc w (.blk bf (rdrC bv sh) 105 :: lfE lo hi bv l :: H)) (hK : K = (k : Int)) (hk : k ≤ 8) :
    Calls Try.prog 74 #[.pointer (some ⟨bf, 0, none⟩), .int .i64 K] w (TkPost k (l, sh) wc bf lo hi H) := by
  subst hK; exact takeW_any M k hk

end Go.Proofs.Ytojgcgaoajfihaa
