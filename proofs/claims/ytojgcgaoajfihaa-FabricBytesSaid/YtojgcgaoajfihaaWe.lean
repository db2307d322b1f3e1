/-
  Package wire: Bytes.
-/
import Derived.Test.YtojgcgaoajfihaaWd
import Derived.Test.YtojgcgaoajfihaaGS
namespace Go.Proofs.Ytojgcgaoajfihaa
open Go.RowKit Go.Sort

/-- a field's bytes -/
def fB (m : Msg) (x : List Wr) : Nat → List UInt8
  | 0 => nmB m.name
  | 1 => leB m.n 3
  | 2 => leB m.op 1
  | 3 => leB m.block 1
  | 4 => m.val.bs
  | 5 => leB m.e 2
  | 6 => leB (if m.yes then 1 else 0) 1
  | 7 => leB m.give 1
  | 8 => leB m.take 1
  | 9 => wsB x
  | _ => []
/-- the bytes of the fields ahead of the k-th -/
def bodyP (h : Nat → Bool) (m : Msg) (x : List Wr) : Nat → List UInt8
  | 0 => []
  | k + 1 => bodyP h m x k ++ (if h k then fB m x k else [])
def hdB (m : Msg) : List UInt8 := leB m.kind 1 ++ (leB m.frm 1 ++ (leB m.to 1 ++ (leB m.inc 3 ++ leB m.your 3)))
def Msg.enc (m : Msg) (x : List Wr) : List UInt8 := hdB m ++ bodyP (khas m.kind) m x 10
theorem encS_no {h : Nat → Bool} {m : Msg} {x : List Wr} {k : Nat} (hk : h k = false) : hdB m ++ bodyP h m x (k + 1) = hdB m ++ bodyP h m x k := by
  rw [bodyP, hk]; simp
theorem encS_yes {h : Nat → Bool} {m : Msg} {x : List Wr} {k : Nat} (hk : h k = true) : hdB m ++ bodyP h m x (k + 1) = hdB m ++ bodyP h m x k ++ fB m x k := by
  rw [bodyP, hk, List.append_assoc]; rfl
theorem fB_len (m : Msg) (x : List Wr) (k : Nat) : (fB m x k).length ≤ 9 + x.length * 9 := by
  match k with
  | 0 => simp only [fB, nmB, List.length_append, leB_length]; omega
  | 1 => simp only [fB, leB_length]; omega
  | 2 => simp only [fB, leB_length]; omega
  | 3 => simp only [fB, leB_length]; omega
  | 4 => simp [fB, V8.bs]; omega
  | 5 => simp only [fB, leB_length]; omega
  | 6 => simp only [fB, leB_length]; omega
  | 7 => simp only [fB, leB_length]; omega
  | 8 => simp only [fB, leB_length]; omega
  | 9 => simp only [fB, wsB, List.length_append, leB_length, wrsB_len]; omega
  | k + 10 => simp [fB]
theorem bodyP_len (h : Nat → Bool) (m : Msg) (x : List Wr) : ∀ k, (bodyP h m x k).length ≤ k * (9 + x.length * 9)
  | 0 => by simp [bodyP]
  | k + 1 => by
    have h1 := bodyP_len h m x k
    have h2 := fB_len m x k
    rw [bodyP, List.length_append, Nat.add_mul, Nat.one_mul]
    split
    · omega
    · simp; omega
theorem hdB_len (m : Msg) : (hdB m).length = 9 := by simp [hdB, leB_length]
theorem encS_len (h : Nat → Bool) (m : Msg) (x : List Wr) {k : Nat} (hk : k ≤ 10) (hx : x.length ≤ 1000) : (hdB m ++ bodyP h m x k).length ≤ 90100 := by
  have := bodyP_len h m x k
  have h2 : k * (9 + x.length * 9) ≤ 10 * (9 + 1000 * 9) := Nat.mul_le_mul hk (by omega)
  rw [List.length_append, hdB_len]; omega
theorem khas2 {k : Int} (h : khas k 2 = true) : k = 2 := by
  unfold khas kfields at h
  by_cases h2 : k = 2
  · exact h2
  · exfalso
    rw [if_neg h2] at h
    by_cases h3 : k = 3
    · rw [if_pos h3] at h; simp at h
    rw [if_neg h3] at h
    by_cases h4 : k = 4
    · rw [if_pos h4] at h; simp at h
    rw [if_neg h4] at h
    by_cases h5 : k = 5
    · rw [if_pos h5] at h; simp at h
    rw [if_neg h5] at h
    by_cases h6 : k = 6
    · rw [if_pos h6] at h; simp at h
    rw [if_neg h6] at h
    by_cases h7 : k = 7
    · rw [if_pos h7] at h; simp at h
    rw [if_neg h7] at h
    by_cases h8 : k = 8
    · rw [if_pos h8] at h; simp at h
    rw [if_neg h8] at h
    by_cases h9 : k = 9
    · rw [if_pos h9] at h; simp at h
    rw [if_neg h9] at h
    by_cases h10 : k = 10
    · rw [if_pos h10] at h; simp at h
    rw [if_neg h10] at h; simp at h
theorem may_kind {m : Msg} {x : List Wr} (h : m.may x = true) : 1 ≤ m.kind ∧ m.kind ≤ 11 := by
  unfold Msg.may at h; split at h
  · rename_i hc; exact ⟨hc.1, hc.2.1⟩
  · cases h
theorem may_op {m : Msg} {x : List Wr} (h : m.may x = true) (hk : khas m.kind 2 = true) : 0 ≤ m.op ∧ m.op ≤ 2 := by
  have hk2 := khas2 hk
  unfold Msg.may at h; split at h
  · simp only [Bool.and_eq_true] at h
    have h2 := h.2
    unfold fitB at h2
    simp only [Bool.and_eq_true] at h2
    have h3 := h2.2
    unfold fitKind at h3
    rw [if_pos hk2] at h3
    simp only [Bool.and_eq_true, decide_eq_true_eq] at h3
    exact ⟨h3.1.1, h3.1.2.1⟩
  · cases h

/-- the block holds a slice, whose own row has these bytes -/
def RowAt (w w' : World) (B : Nat) (bs : List UInt8) (H : List Ent) : Prop := ∃ (u : Value) (lo hi : Nat), Mem w w' (.blk B #[u] 25 :: rowE lo hi 5 1 u bs.length (bcells bs) :: H)
theorem rowAt {w w' : World} {B lo hi : Nat} {u : Value} {bs bs' : List UInt8} {H : List Ent} (M : Mem w w' (.blk B #[u] 25 :: rowE lo hi 5 1 u bs.length (bcells bs) :: H)) (h : bs = bs') : RowAt w w' B bs' H := h ▸ ⟨u, lo, hi, M⟩

def BytesPost (m : Msg) (x : List Wr) (w : World) (e : Ending) (w' : World) : Prop :=
  ∃ v', e = .returned (.tuple #[v', .int .i64 (if m.may x then 0 else 2)]) ∧ Fresh w w' 5 1 v' (ifL (m.may x = true) (sealB (m.enc x))).length (bcells (ifL (m.may x = true) (sealB (m.enc x))))
set_option maxHeartbeats 300000 in
theorem bytesM_any (m : Msg) (va : Option Addr) (vn vc : Nat) (x : List Wr) (w : World) (hv : Ws 0 w.heap.size w (.slice va vn vc) x) (hx : x.length ≤ 1000) :
    Calls Try.prog 19 #[.agg (m.cells (.slice va vn vc))] w (BytesPost m x w) := by
  have M := Mem.start w
  obtain ⟨ad_, cap_, hform, -, -⟩ := hv.form
  obtain ⟨-, rfl, -⟩ : va = ad_ ∧ vn = x.length ∧ vc = cap_ := by simpa using hform
  refine calls_enter Try.func19 rfl 145 rfl rfl ?_; intro a S
  refine nxD ?_
  refine st_box S M rfl rfl rfl #[_, _, _, _, _, _, _, _, _, _, _, _, _, _, _, _, _, _, _, _, _, _, _, _] rfl ?_; clear S M a; intro a w1 bA S M hB
  refine st_go [1, 1] S rfl (by kernel_rfl) ?_; clear S a; intro a S
  refine nxC ?_
  refine wp_seq ?_
  refine nxD ?_
  refine st_y S rfl rfl rfl (y_loadAgg (cs := [_, _, _, _, _, _, _, _, _, _, _, _, _, _, _, _, _, _, _, _, _, _, _, _]) S (by kernel_rfl) rfl rfl (M.cellsAt (k := 24) 0 rfl rfl)) ?_; clear S a; intro a S
  refine st_call (xs := [(Operand.tmp 11)]) S (enters_of Try.func26 (by decide) rfl) rfl rfl rfl (mayM_any m va x.length vc x _ (M.argW hv)) ?_
  rintro _ w2 ⟨rfl, hK⟩; refine ⟨_, rfl, ?_⟩; clear S a; intro a S; replace M := M.grow hK
  refine st_go [1] S rfl (by kernel_rfl) ?_; clear S a; intro a S
  refine nxC ?_
  refine st_split (t := 13) S rfl ?_ ?_
  · clear S; intro h13 S
    refine st_condT S rfl ?_
    refine nxD ?_
    refine st_go [1, 1] S rfl (by kernel_rfl) ?_; clear S a; intro a S
    refine nxC ?_
    refine wp_ret ?_
    refine then_ret ?_
    refine end_two S rfl (res_tmp rfl) (res_tmp rfl) ?_
    have hm : m.may x = false := by simpa using h13
    exact ⟨_, by rw [hm]; rfl, by rw [ifL_neg (by rw [hm]; simp)]; exact M.freshNil _ _⟩
  clear S; intro h13 S
  refine st_condF S rfl ?_
  refine wp_skip ?_
  refine then_normal ?_
  refine wp_seq ?_
  have hm : m.may x = true := by simpa using h13
  have hkd := may_kind hm
  refine wp_region_lit ?_
  refine st_alloc S M rfl rfl #[.slice none 0 0] (by kernel_rfl) ?_; clear S M a; intro a w3 bB S M hB
  refine nxA ?_
  refine st_y S rfl rfl rfl (y_makeFunc (fs := []) (cs := [(Operand.tmp 4)]) S rfl rfl) ?_; clear S a; intro a S
  refine st_go [1] S rfl (by kernel_rfl) ?_; clear S a; intro a S
  refine nxC ?_
  refine wp_seq ?_
  replace M := M.rowNil 5 1
  replace M : Mem _ _ (rowE _ _ 5 1 _ ([] : List UInt8).length (bcells []) :: _) := M
  replace M := M.front 1 rfl
  simp only [List.eraseIdx_cons_succ, List.eraseIdx_cons_zero] at M
  refine wp_region_lit ?_
  refine st_run [1, 1, 3] S M rfl (by kernel_rfl) ?_; clear S a; intro a S
  (first | refine st_y S rfl rfl rfl (y_to64 S rfl (by kernel_rfl) (by kernel_rfl) (by first | omega | (simp only [List.length_append, leB_length] at *; omega))) ?_ | refine st_y S rfl rfl rfl (y_conv (k' := .i64) S rfl (by kernel_rfl) (by kernel_rfl)) ?_); clear S a; intro a S
  refine st_callB (xs := [(Operand.tmp 18), (Operand.const (Value.int IntKind.i64 1))]) (fi := []) (ca := [_]) S (enters_of Try.func31 (by decide) rfl) rfl rfl (rfl) rfl (put_at _ _ 1 bB _ _ _ _ _ _ _ M rfl (by decide) (by (try simp only [List.length_append, leB_length, List.length_nil] at *); omega)) ?_
  rintro _ w4 ⟨u1, lo1, hi1, rfl, M'⟩; refine ⟨_, rfl, ?_⟩; clear S a M; intro a S; have M := M'; clear M'
  refine nxA ?_
  refine st_run [1, 2, 3] S M rfl (by kernel_rfl) ?_; clear S a; intro a S
  refine st_callB (xs := [(Operand.tmp 22), (Operand.const (Value.int IntKind.i64 1))]) (fi := []) (ca := [_]) S (enters_of Try.func31 (by decide) rfl) rfl rfl (rfl) rfl (put_at _ _ 1 bB _ _ _ _ _ _ _ M rfl (by decide) (by (try simp only [List.length_append, leB_length, List.length_nil] at *); omega)) ?_
  rintro _ w5 ⟨u1, lo1, hi1, rfl, M'⟩; refine ⟨_, rfl, ?_⟩; clear S a M; intro a S; have M := M'; clear M'
  refine nxA ?_
  refine st_run [1, 3, 3] S M rfl (by kernel_rfl) ?_; clear S a; intro a S
  refine st_callB (xs := [(Operand.tmp 26), (Operand.const (Value.int IntKind.i64 1))]) (fi := []) (ca := [_]) S (enters_of Try.func31 (by decide) rfl) rfl rfl (rfl) rfl (put_at _ _ 1 bB _ _ _ _ _ _ _ M rfl (by decide) (by (try simp only [List.length_append, leB_length, List.length_nil] at *); omega)) ?_
  rintro _ w6 ⟨u1, lo1, hi1, rfl, M'⟩; refine ⟨_, rfl, ?_⟩; clear S a M; intro a S; have M := M'; clear M'
  replace S := S.sub [(0, _), (1, _), (2, _), (3, _), (13, _), (4, _), (5, _)] rfl
  refine nxA ?_
  refine st_run [1, 4, 3] S M rfl (by kernel_rfl) ?_; clear S a; intro a S
  refine st_callB (xs := [(Operand.tmp 30), (Operand.const (Value.int IntKind.i64 3))]) (fi := []) (ca := [_]) S (enters_of Try.func31 (by decide) rfl) rfl rfl (rfl) rfl (put_at _ _ 3 bB _ _ _ _ _ _ _ M rfl (by decide) (by (try simp only [List.length_append, leB_length, List.length_nil] at *); omega)) ?_
  rintro _ w7 ⟨u1, lo1, hi1, rfl, M'⟩; refine ⟨_, rfl, ?_⟩; clear S a M; intro a S; have M := M'; clear M'
  refine nxA ?_
  refine st_run [1, 5, 3] S M rfl (by kernel_rfl) ?_; clear S a; intro a S
  refine st_callB (xs := [(Operand.tmp 34), (Operand.const (Value.int IntKind.i64 3))]) (fi := []) (ca := [_]) S (enters_of Try.func31 (by decide) rfl) rfl rfl (rfl) rfl (put_at _ _ 3 bB _ _ _ _ _ _ _ M rfl (by decide) (by (try simp only [List.length_append, leB_length, List.length_nil] at *); omega)) ?_
  rintro _ w8 ⟨u1, lo1, hi1, rfl, M'⟩; refine ⟨_, rfl, ?_⟩; clear S a M; intro a S; have M := M'; clear M'
  refine nxA ?_
  refine st_run [1, 3] S M rfl (by kernel_rfl) ?_; clear S a; intro a S
  refine st_call (xs := [(Operand.tmp 38)]) S (enters_of Try.func32 (by decide) rfl) rfl rfl rfl (kindOf_any _ _) ?_
  rintro _ w9 ⟨rfl, hK⟩; refine ⟨_, rfl, ?_⟩; clear S a; intro a S; replace M := M.grow hK
  refine st_go [1, 1, 1] S rfl (by kernel_rfl) ?_; clear S a; intro a S
  refine st_alloc S M rfl rfl #[.bool false, .bool false, .bool false, .bool false, .bool false, .bool false, .bool false, .bool false, .bool false, .bool false, .bool false] (by kernel_rfl) ?_; clear S M a; intro a w10 bK S M hB
  refine st_store (sz := 11) (us := [_, _, _, _, _, _, _, _, _, _, _]) S M 0 rfl (by kernel_rfl) rfl rfl rfl rfl rfl rfl (by first | decide | (simp; done) | (simp; omega)) ?_; clear M; intro w11 M
  simp only [putL, List.set_cons_zero, List.set_cons_succ, Nat.reduceAdd] at M
  refine st_go [1] S rfl (by kernel_rfl) ?_; clear S a; intro a S
  replace S := S.sub [(0, _), (1, _), (2, _), (3, _), (13, _), (4, _), (5, _), (6, _)] rfl
  refine nxC ?_
  refine wp_seq ?_
  refine nxD ?_
  refine st_go [1] S rfl (by kernel_rfl) ?_; clear S a; intro a S
  refine nxC ?_
  refine wp_block ?_
  refine wp_loop_g (fun q a w' => ∃ (k : Nat), k ≤ 10 ∧ q = 10 - k ∧ Sees 145 a [(1, .pointer (some ⟨bA, 0, none⟩)), (4, .pointer (some ⟨bB, 0, none⟩)), (5, .func (.func 31) #[] #[.pointer (some ⟨bB, 0, none⟩)]), (6, .pointer (some ⟨bK, 0, none⟩)), (42, .int .i64 (k : Int))] ∧ RowAt w w' bB (hdB m ++ bodyP (khas m.kind) m x k) [.blk bK (kdL (kdown m.kind) (khas m.kind)).toArray 68, .blk bA (m.cells (.slice va x.length vc)) 42]) (10) ?_ ?_
  · skip
    replace M := M.front 2 rfl
    simp only [List.eraseIdx_cons_succ, List.eraseIdx_cons_zero] at M
    replace M := M.front 2 rfl
    simp only [List.eraseIdx_cons_succ, List.eraseIdx_cons_zero] at M
    exact ⟨0, by omega, rfl, S.sub _ rfl, rowAt M (by simp only [hdB, bodyP, List.append_assoc, List.nil_append, List.append_nil])⟩
  clear S M a; intro m a wl
  rintro ⟨k, hk, rfl, S, u, lo, hi, M⟩
  have hlen := encS_len (khas m.kind) m x hk hx
  refine nxD ?_
  refine st_go [1] S rfl (by kernel_rfl) ?_; clear S a; intro a S
  refine nxC ?_
  refine wp_seq ?_
  refine st_fi (t := 43) S rfl ?_ ?_
  · clear S; intro h43 S
    refine st_condF S rfl ?_
    refine wp_exit ?_
    refine then_exit ?_
    refine then_exit ?_
    refine block_hit ?_
    refine nxE ?_
    refine st_run [1] S M rfl (by kernel_rfl) ?_; clear S a; intro a S
    refine st_call (xs := [(Operand.tmp 143)]) S (enters_of Try.func33 (by decide) rfl) rfl rfl rfl (seal_any _ (hdB m ++ bodyP (khas m.kind) m x k) _ (M.readAll 1 rfl (by unfold maxLen; omega)) (by omega)) ?_
    rintro _ w33 ⟨v1, rfl, hF⟩; refine ⟨_, rfl, ?_⟩; clear S a; intro a S
    obtain ⟨lo1, hi1, -, M⟩ := M.pushFresh hF
    refine st_go [1, 1] S rfl (by kernel_rfl) ?_; clear S a; intro a S
    refine nxC ?_
    refine wp_ret ?_
    refine end_two S rfl (res_tmp rfl) (res_tmp rfl) ?_
    obtain rfl : k = 10 := by omega
    exact ⟨_, by rw [hm]; rfl, by rw [ifL_pos hm]; exact M.fresh 0 rfl⟩
  clear S; intro h43 S
  refine st_condT S rfl ?_
  refine wp_skip ?_
  refine then_normal ?_
  refine wp_cut (fun a w' => Sees 145 a [(1, .pointer (some ⟨bA, 0, none⟩)), (4, .pointer (some ⟨bB, 0, none⟩)), (5, .func (.func 31) #[] #[.pointer (some ⟨bB, 0, none⟩)]), (6, .pointer (some ⟨bK, 0, none⟩)), (42, .int .i64 (k : Int))] ∧ RowAt w w' bB (hdB m ++ bodyP (khas m.kind) m x (k + 1)) [.blk bK (kdL (kdown m.kind) (khas m.kind)).toArray 68, .blk bA (m.cells (.slice va x.length vc)) 42]) ?_ ?_
  · skip
    refine wp_block ?_
    refine nxD ?_
    refine st_go [1, 1] S rfl (by kernel_rfl) ?_; clear S a; intro a S
    refine nxC ?_
    refine wp_seq ?_
    refine nxD ?_
    refine st_go [1, 2] S rfl (by kernel_rfl) ?_; clear S a; intro a S
    refine st_y S rfl rfl rfl (y_indexA (m := 10) (sz := 1) S (by kernel_rfl) rfl rfl (by first | omega | (simp; done) | (simp; omega))) ?_; clear S a; intro a S
    try simp only [Int.toNat_natCast, Nat.mul_one, Nat.zero_add] at S
    refine st_y S rfl rfl rfl (y_load S (by kernel_rfl) rfl (M.cell 2 rfl (kd_get (by omega)))) ?_; clear S a; intro a S
    refine st_go [1] S rfl (by kernel_rfl) ?_; clear S a; intro a S
    refine nxC ?_
    refine st_split (t := 49) S rfl ?_ ?_
    · clear S; intro h49 S
      refine st_condT S rfl ?_
      refine wp_exit ?_
      refine then_exit ?_
      refine block_hit ?_
      refine then_normal ?_
      first
        | (exfalso; omega)
        | (refine ⟨S.sub _ rfl, rowAt M ?_⟩; rw [encS_no (h := khas m.kind) (nrmA h49)]; done)
        | (refine ⟨S.sub _ rfl, rowAt M ?_⟩; rw [encS_yes (h := khas m.kind) (nrmB h49)]; simp only [fB, h102, reduceIte, Bool.false_eq_true]; done)
        | (refine ⟨S.sub _ rfl, rowAt M ?_⟩; rw [encS_yes (h := khas m.kind) (nrmB h49)]; simp only [fB, nmB, List.append_assoc]; done)
        | (suffices hj0 : j = x.length by
             (subst hj0; refine ⟨S.sub _ rfl, rowAt M ?_⟩; rw [encS_yes (h := khas m.kind) (nrmB h49), List.take_length]; simp only [fB, wsB]; done)
           omega)
    clear S; intro h49 S
    refine st_condF S rfl ?_
    refine wp_skip ?_
    refine nxE ?_
    refine st_go [1] S rfl (by kernel_rfl) ?_; clear S a; intro a S
    refine nxC ?_
    refine wp_block ?_
    refine nxD ?_
    refine st_go [1, 1] S rfl (by kernel_rfl) ?_; clear S a; intro a S
    refine nxC ?_
    refine st_if (t := 51) S rfl ?_ ?_
    · clear S; intro h51 S
      refine st_condT S rfl ?_
      refine wp_seq ?_
      obtain rfl : k = 0 := by omega
      refine wp_region_lit ?_
      refine st_run [1, 6, 1, 4] S M rfl (by kernel_rfl) ?_; clear S a; intro a S
      refine st_callB (xs := [(Operand.tmp 56), (Operand.const (Value.int IntKind.i64 3))]) (fi := []) (ca := [_]) S (enters_of Try.func31 (by decide) rfl) rfl rfl (rfl) rfl (put_at _ _ 3 bB _ _ _ _ _ _ _ M rfl (by decide) (by (try simp only [List.length_append, leB_length, List.length_nil] at *); omega)) ?_
      rintro _ w12 ⟨u1, lo1, hi1, rfl, M'⟩; refine ⟨_, rfl, ?_⟩; clear S a M; intro a S; have M := M'; clear M'
      refine nxA ?_
      refine st_run [1, 6, 2, 4] S M rfl (by kernel_rfl) ?_; clear S a; intro a S
      refine st_callB (xs := [(Operand.tmp 61), (Operand.const (Value.int IntKind.i64 3))]) (fi := []) (ca := [_]) S (enters_of Try.func31 (by decide) rfl) rfl rfl (rfl) rfl (put_at _ _ 3 bB _ _ _ _ _ _ _ M rfl (by decide) (by (try simp only [List.length_append, leB_length, List.length_nil] at *); omega)) ?_
      rintro _ w13 ⟨u1, lo1, hi1, rfl, M'⟩; refine ⟨_, rfl, ?_⟩; clear S a M; intro a S; have M := M'; clear M'
      replace S := S.sub [(1, _), (4, _), (5, _), (6, _), (42, _), (43, _), (8, _), (49, _), (50, _), (51, _)] rfl
      refine nxB ?_
      refine st_run [1, 6, 3, 4] S M rfl (by kernel_rfl) ?_; clear S a; intro a S
      refine st_callB (xs := [(Operand.tmp 66), (Operand.const (Value.int IntKind.i64 3))]) (fi := []) (ca := [_]) S (enters_of Try.func31 (by decide) rfl) rfl rfl (rfl) rfl (put_at _ _ 3 bB _ _ _ _ _ _ _ M rfl (by decide) (by (try simp only [List.length_append, leB_length, List.length_nil] at *); omega)) ?_
      rintro _ w14 ⟨u1, lo1, hi1, rfl, M'⟩; refine ⟨_, rfl, ?_⟩; clear S a M; intro a S; have M := M'; clear M'
      refine wpList_nil ?_
      refine block_normal ?_
      refine block_normal ?_
      refine then_normal ?_
      first
        | (exfalso; omega)
        | (refine ⟨S.sub _ rfl, rowAt M ?_⟩; rw [encS_no (h := khas m.kind) (nrmA h49)]; done)
        | (refine ⟨S.sub _ rfl, rowAt M ?_⟩; rw [encS_yes (h := khas m.kind) (nrmB h49)]; simp only [fB, h102, reduceIte, Bool.false_eq_true]; done)
        | (refine ⟨S.sub _ rfl, rowAt M ?_⟩; rw [encS_yes (h := khas m.kind) (nrmB h49)]; simp only [fB, nmB, List.append_assoc]; done)
        | (suffices hj0 : j = x.length by
             (subst hj0; refine ⟨S.sub _ rfl, rowAt M ?_⟩; rw [encS_yes (h := khas m.kind) (nrmB h49), List.take_length]; simp only [fB, wsB]; done)
           omega)
    clear S; intro h51 S
    refine st_condF S rfl ?_
    refine nxD ?_
    refine st_go [1, 1] S rfl (by kernel_rfl) ?_; clear S a; intro a S
    refine nxC ?_
    refine st_if (t := 68) S rfl ?_ ?_
    · clear S; intro h68 S
      refine st_condT S rfl ?_
      obtain rfl : k = 1 := by omega
      refine wp_region_lit ?_
      refine st_run [1, 9, 4] S M rfl (by kernel_rfl) ?_; clear S a; intro a S
      refine st_callB (xs := [(Operand.tmp 72), (Operand.const (Value.int IntKind.i64 3))]) (fi := []) (ca := [_]) S (enters_of Try.func31 (by decide) rfl) rfl rfl (rfl) rfl (put_at _ _ 3 bB _ _ _ _ _ _ _ M rfl (by decide) (by (try simp only [List.length_append, leB_length, List.length_nil] at *); omega)) ?_
      rintro _ w15 ⟨u1, lo1, hi1, rfl, M'⟩; refine ⟨_, rfl, ?_⟩; clear S a M; intro a S; have M := M'; clear M'
      refine wpList_nil ?_
      refine block_normal ?_
      refine block_normal ?_
      refine then_normal ?_
      first
        | (exfalso; omega)
        | (refine ⟨S.sub _ rfl, rowAt M ?_⟩; rw [encS_no (h := khas m.kind) (nrmA h49)]; done)
        | (refine ⟨S.sub _ rfl, rowAt M ?_⟩; rw [encS_yes (h := khas m.kind) (nrmB h49)]; simp only [fB, h102, reduceIte, Bool.false_eq_true]; done)
        | (refine ⟨S.sub _ rfl, rowAt M ?_⟩; rw [encS_yes (h := khas m.kind) (nrmB h49)]; simp only [fB, nmB, List.append_assoc]; done)
        | (suffices hj0 : j = x.length by
             (subst hj0; refine ⟨S.sub _ rfl, rowAt M ?_⟩; rw [encS_yes (h := khas m.kind) (nrmB h49), List.take_length]; simp only [fB, wsB]; done)
           omega)
    clear S; intro h68 S
    refine st_condF S rfl ?_
    refine nxD ?_
    refine st_go [1, 1] S rfl (by kernel_rfl) ?_; clear S a; intro a S
    refine nxC ?_
    refine st_if (t := 74) S rfl ?_ ?_
    · clear S; intro h74 S
      refine st_condT S rfl ?_
      obtain rfl : k = 2 := by omega
      have hop := may_op hm (by simpa using h49)
      refine wp_region_lit ?_
      refine st_run [1, 10, 4] S M rfl (by kernel_rfl) ?_; clear S a; intro a S
      (first | refine st_y S rfl rfl rfl (y_to64 S rfl (by kernel_rfl) (by kernel_rfl) (by first | omega | (simp only [List.length_append, leB_length] at *; omega))) ?_ | refine st_y S rfl rfl rfl (y_conv (k' := .i64) S rfl (by kernel_rfl) (by kernel_rfl)) ?_); clear S a; intro a S
      refine st_callB (xs := [(Operand.tmp 79), (Operand.const (Value.int IntKind.i64 1))]) (fi := []) (ca := [_]) S (enters_of Try.func31 (by decide) rfl) rfl rfl (rfl) rfl (put_at _ _ 1 bB _ _ _ _ _ _ _ M rfl (by decide) (by (try simp only [List.length_append, leB_length, List.length_nil] at *); omega)) ?_
      rintro _ w16 ⟨u1, lo1, hi1, rfl, M'⟩; refine ⟨_, rfl, ?_⟩; clear S a M; intro a S; have M := M'; clear M'
      refine wpList_nil ?_
      refine block_normal ?_
      refine block_normal ?_
      refine then_normal ?_
      first
        | (exfalso; omega)
        | (refine ⟨S.sub _ rfl, rowAt M ?_⟩; rw [encS_no (h := khas m.kind) (nrmA h49)]; done)
        | (refine ⟨S.sub _ rfl, rowAt M ?_⟩; rw [encS_yes (h := khas m.kind) (nrmB h49)]; simp only [fB, h102, reduceIte, Bool.false_eq_true]; done)
        | (refine ⟨S.sub _ rfl, rowAt M ?_⟩; rw [encS_yes (h := khas m.kind) (nrmB h49)]; simp only [fB, nmB, List.append_assoc]; done)
        | (suffices hj0 : j = x.length by
             (subst hj0; refine ⟨S.sub _ rfl, rowAt M ?_⟩; rw [encS_yes (h := khas m.kind) (nrmB h49), List.take_length]; simp only [fB, wsB]; done)
           omega)
    clear S; intro h74 S
    refine st_condF S rfl ?_
    refine nxD ?_
    refine st_go [1, 1] S rfl (by kernel_rfl) ?_; clear S a; intro a S
    refine nxC ?_
    refine st_if (t := 81) S rfl ?_ ?_
    · clear S; intro h81 S
      refine st_condT S rfl ?_
      obtain rfl : k = 3 := by omega
      refine wp_region_lit ?_
      refine st_run [1, 11, 4] S M rfl (by kernel_rfl) ?_; clear S a; intro a S
      refine st_callB (xs := [(Operand.tmp 85), (Operand.const (Value.int IntKind.i64 1))]) (fi := []) (ca := [_]) S (enters_of Try.func31 (by decide) rfl) rfl rfl (rfl) rfl (put_at _ _ 1 bB _ _ _ _ _ _ _ M rfl (by decide) (by (try simp only [List.length_append, leB_length, List.length_nil] at *); omega)) ?_
      rintro _ w17 ⟨u1, lo1, hi1, rfl, M'⟩; refine ⟨_, rfl, ?_⟩; clear S a M; intro a S; have M := M'; clear M'
      refine wpList_nil ?_
      refine block_normal ?_
      refine block_normal ?_
      refine then_normal ?_
      first
        | (exfalso; omega)
        | (refine ⟨S.sub _ rfl, rowAt M ?_⟩; rw [encS_no (h := khas m.kind) (nrmA h49)]; done)
        | (refine ⟨S.sub _ rfl, rowAt M ?_⟩; rw [encS_yes (h := khas m.kind) (nrmB h49)]; simp only [fB, h102, reduceIte, Bool.false_eq_true]; done)
        | (refine ⟨S.sub _ rfl, rowAt M ?_⟩; rw [encS_yes (h := khas m.kind) (nrmB h49)]; simp only [fB, nmB, List.append_assoc]; done)
        | (suffices hj0 : j = x.length by
             (subst hj0; refine ⟨S.sub _ rfl, rowAt M ?_⟩; rw [encS_yes (h := khas m.kind) (nrmB h49), List.take_length]; simp only [fB, wsB]; done)
           omega)
    clear S; intro h81 S
    refine st_condF S rfl ?_
    refine nxD ?_
    refine st_go [1, 1] S rfl (by kernel_rfl) ?_; clear S a; intro a S
    refine nxC ?_
    refine st_if (t := 87) S rfl ?_ ?_
    · clear S; intro h87 S
      refine st_condT S rfl ?_
      obtain rfl : k = 4 := by omega
      refine wp_regionK [3, 4] #[false, false, false, false, false] rfl M (by kernel_rfl) ?_; clear M; intro w18 M
      refine k_read (listed' := #[true, false, false, false, false]) 0 S rfl rfl rfl rfl (by kernel_rfl) rfl (fun _ d _ _ _ h => by cases d <;> exact h) (fun w hW => have M := M.grow hW; y_load S (by kernel_rfl) rfl (M.cell 0 rfl rfl)) ?_; clear S a; intro a S
      refine k_pure (listed' := #[true, true, false, false, false]) 1 S rfl rfl rfl rfl (by kernel_rfl) rfl (fun _ d _ _ _ h => by cases d <;> exact h) (fun w => y_fieldAddr (k := 11) S (by kernel_rfl) rfl) ?_; clear S a; intro a S
      refine k_pure (listed' := #[true, true, true, false, false]) 2 S rfl rfl rfl rfl (by kernel_rfl) rfl (fun _ d _ _ _ h => by cases d <;> exact h) (fun w => y_sliceA (m := 8) (sz := 1) S (by kernel_rfl) rfl) ?_; clear S a; intro a S
      refine k_one (listed' := #[true, true, true, true, false]) 3 rfl (by kernel_rfl) rfl ?_
      refine st_append (e := 5) (sz := 1) (by_ := 1) (zc := [.int .u8 0]) S M 1 rfl rfl (by kernel_rfl) rfl (by decide) rfl rfl rfl (show Rd _ _ _ 1 _ 8 (bcells m.val.bs) from M.sliceAt 3 rfl (M.cellsAt (k := 8) 3 rfl rfl) rfl (Nat.le_refl _) (by unfold maxLen; omega)) (allOne_bcells _) (by first | omega | (simp only [List.length_append, leB_length] at *; omega)) (by simp only [List.length_append, leB_length] at *; unfold maxLen; omega) ?_; clear S M a; intro a w19 vA loA hiA S M
      refine wpList_nil ?_; refine then_normal ?_; refine ⟨fun h => absurd h (by decide), ?_⟩
      refine k_one (listed' := #[true, true, true, true, true]) 4 rfl (by kernel_rfl) rfl ?_
      replace M := M.rowC (ys := m.val.bs) rfl
      have hl9 : (hdB m ++ bodyP (khas m.kind) m x 4 ++ m.val.bs).length ≤ 90200 := by rw [List.length_append]; have : m.val.bs.length = 8 := rfl; omega
      obtain ⟨aA, cA, rfl, -, -⟩ := (M.readAll 0 rfl (by unfold maxLen; omega)).form
      refine st_store (sz := 1) (us := [_]) S M 1 rfl (by kernel_rfl) rfl rfl rfl rfl rfl rfl (by first | decide | (simp; done) | (simp; omega)) ?_; clear M; intro w20 M
      simp only [putL, List.set_cons_zero, List.set_cons_succ, Nat.reduceAdd] at M
      refine wpList_nil ?_; refine then_normal ?_; refine ⟨fun h => absurd h (by decide), ?_⟩
      refine k_end (by kernel_rfl) ?_
      replace S := S.sub [(1, _), (4, _), (5, _), (6, _), (42, _), (43, _), (8, _), (49, _), (50, _), (51, _), (68, _), (74, _), (81, _), (87, _)] rfl
      refine block_normal ?_
      refine block_normal ?_
      refine then_normal ?_
      replace M := M.front 1 rfl
      simp only [List.eraseIdx_cons_succ, List.eraseIdx_cons_zero] at M
      first
        | (exfalso; omega)
        | (refine ⟨S.sub _ rfl, rowAt M ?_⟩; rw [encS_no (h := khas m.kind) (nrmA h49)]; done)
        | (refine ⟨S.sub _ rfl, rowAt M ?_⟩; rw [encS_yes (h := khas m.kind) (nrmB h49)]; simp only [fB, h102, reduceIte, Bool.false_eq_true]; done)
        | (refine ⟨S.sub _ rfl, rowAt M ?_⟩; rw [encS_yes (h := khas m.kind) (nrmB h49)]; simp only [fB, nmB, List.append_assoc]; done)
        | (suffices hj0 : j = x.length by
             (subst hj0; refine ⟨S.sub _ rfl, rowAt M ?_⟩; rw [encS_yes (h := khas m.kind) (nrmB h49), List.take_length]; simp only [fB, wsB]; done)
           omega)
    clear S; intro h87 S
    refine st_condF S rfl ?_
    refine nxD ?_
    refine st_go [1, 1] S rfl (by kernel_rfl) ?_; clear S a; intro a S
    refine nxC ?_
    refine st_if (t := 93) S rfl ?_ ?_
    · clear S; intro h93 S
      refine st_condT S rfl ?_
      obtain rfl : k = 5 := by omega
      refine wp_region_lit ?_
      refine st_run [1, 20, 4] S M rfl (by kernel_rfl) ?_; clear S a; intro a S
      refine st_callB (xs := [(Operand.tmp 97), (Operand.const (Value.int IntKind.i64 2))]) (fi := []) (ca := [_]) S (enters_of Try.func31 (by decide) rfl) rfl rfl (rfl) rfl (put_at _ _ 2 bB _ _ _ _ _ _ _ M rfl (by decide) (by (try simp only [List.length_append, leB_length, List.length_nil] at *); omega)) ?_
      rintro _ w21 ⟨u1, lo1, hi1, rfl, M'⟩; refine ⟨_, rfl, ?_⟩; clear S a M; intro a S; have M := M'; clear M'
      replace S := S.sub [(1, _), (4, _), (5, _), (6, _), (42, _), (43, _), (8, _), (49, _), (50, _), (51, _), (68, _), (74, _), (81, _), (87, _), (93, _)] rfl
      refine wpList_nil ?_
      refine block_normal ?_
      refine block_normal ?_
      refine then_normal ?_
      first
        | (exfalso; omega)
        | (refine ⟨S.sub _ rfl, rowAt M ?_⟩; rw [encS_no (h := khas m.kind) (nrmA h49)]; done)
        | (refine ⟨S.sub _ rfl, rowAt M ?_⟩; rw [encS_yes (h := khas m.kind) (nrmB h49)]; simp only [fB, h102, reduceIte, Bool.false_eq_true]; done)
        | (refine ⟨S.sub _ rfl, rowAt M ?_⟩; rw [encS_yes (h := khas m.kind) (nrmB h49)]; simp only [fB, nmB, List.append_assoc]; done)
        | (suffices hj0 : j = x.length by
             (subst hj0; refine ⟨S.sub _ rfl, rowAt M ?_⟩; rw [encS_yes (h := khas m.kind) (nrmB h49), List.take_length]; simp only [fB, wsB]; done)
           omega)
    clear S; intro h93 S
    refine st_condF S rfl ?_
    refine nxD ?_
    refine st_go [1, 1] S rfl (by kernel_rfl) ?_; clear S a; intro a S
    refine nxC ?_
    refine st_if (t := 99) S rfl ?_ ?_
    · clear S; intro h99 S
      refine st_condT S rfl ?_
      refine wp_seq ?_
      obtain rfl : k = 6 := by omega
      refine wp_region_lit ?_
      refine st_run [21, 4] S M rfl (by kernel_rfl) ?_; clear S a; intro a S
      refine nxC ?_
      refine st_split (t := 102) S rfl ?_ ?_
      · clear S; intro h102 S
        refine st_condT S rfl ?_
        refine wp_region_lit ?_
        refine st_go [1] S rfl (by kernel_rfl) ?_; clear S a; intro a S
        refine st_callB (xs := [(Operand.const (Value.int IntKind.i64 1)), (Operand.const (Value.int IntKind.i64 1))]) (fi := []) (ca := [_]) S (enters_of Try.func31 (by decide) rfl) rfl rfl (rfl) rfl (put_at _ _ 1 bB _ _ _ _ _ _ _ M rfl (by decide) (by (try simp only [List.length_append, leB_length, List.length_nil] at *); omega)) ?_
        rintro _ w22 ⟨u1, lo1, hi1, rfl, M'⟩; refine ⟨_, rfl, ?_⟩; clear S a M; intro a S; have M := M'; clear M'
        replace S := S.sub [(1, _), (4, _), (5, _), (6, _), (42, _), (43, _), (8, _), (49, _), (50, _), (51, _), (68, _), (74, _), (81, _), (87, _), (93, _), (99, _), (102, _)] rfl
        refine wpList_nil ?_
        refine block_normal ?_
        refine block_normal ?_
        refine then_normal ?_
        first
          | (exfalso; omega)
          | (refine ⟨S.sub _ rfl, rowAt M ?_⟩; rw [encS_no (h := khas m.kind) (nrmA h49)]; done)
          | (refine ⟨S.sub _ rfl, rowAt M ?_⟩; rw [encS_yes (h := khas m.kind) (nrmB h49)]; simp only [fB, h102, reduceIte, Bool.false_eq_true]; done)
          | (refine ⟨S.sub _ rfl, rowAt M ?_⟩; rw [encS_yes (h := khas m.kind) (nrmB h49)]; simp only [fB, nmB, List.append_assoc]; done)
          | (suffices hj0 : j = x.length by
               (subst hj0; refine ⟨S.sub _ rfl, rowAt M ?_⟩; rw [encS_yes (h := khas m.kind) (nrmB h49), List.take_length]; simp only [fB, wsB]; done)
             omega)
      clear S; intro h102 S
      refine st_condF S rfl ?_
      refine wp_region_lit ?_
      refine st_go [1] S rfl (by kernel_rfl) ?_; clear S a; intro a S
      refine st_callB (xs := [(Operand.const (Value.int IntKind.i64 0)), (Operand.const (Value.int IntKind.i64 1))]) (fi := []) (ca := [_]) S (enters_of Try.func31 (by decide) rfl) rfl rfl (rfl) rfl (put_at _ _ 1 bB _ _ _ _ _ _ _ M rfl (by decide) (by (try simp only [List.length_append, leB_length, List.length_nil] at *); omega)) ?_
      rintro _ w23 ⟨u1, lo1, hi1, rfl, M'⟩; refine ⟨_, rfl, ?_⟩; clear S a M; intro a S; have M := M'; clear M'
      replace S := S.sub [(1, _), (4, _), (5, _), (6, _), (42, _), (43, _), (8, _), (49, _), (50, _), (51, _), (68, _), (74, _), (81, _), (87, _), (93, _), (99, _), (102, _)] rfl
      refine wpList_nil ?_
      refine block_normal ?_
      refine block_normal ?_
      refine then_normal ?_
      first
        | (exfalso; omega)
        | (refine ⟨S.sub _ rfl, rowAt M ?_⟩; rw [encS_no (h := khas m.kind) (nrmA h49)]; done)
        | (refine ⟨S.sub _ rfl, rowAt M ?_⟩; rw [encS_yes (h := khas m.kind) (nrmB h49)]; simp only [fB, h102, reduceIte, Bool.false_eq_true]; done)
        | (refine ⟨S.sub _ rfl, rowAt M ?_⟩; rw [encS_yes (h := khas m.kind) (nrmB h49)]; simp only [fB, nmB, List.append_assoc]; done)
        | (suffices hj0 : j = x.length by
             (subst hj0; refine ⟨S.sub _ rfl, rowAt M ?_⟩; rw [encS_yes (h := khas m.kind) (nrmB h49), List.take_length]; simp only [fB, wsB]; done)
           omega)
    clear S; intro h99 S
    refine st_condF S rfl ?_
    refine nxD ?_
    refine st_go [1, 1] S rfl (by kernel_rfl) ?_; clear S a; intro a S
    refine nxC ?_
    refine st_if (t := 107) S rfl ?_ ?_
    · clear S; intro h107 S
      refine st_condT S rfl ?_
      obtain rfl : k = 7 := by omega
      refine wp_region_lit ?_
      refine st_run [1, 22, 4] S M rfl (by kernel_rfl) ?_; clear S a; intro a S
      refine st_callB (xs := [(Operand.tmp 111), (Operand.const (Value.int IntKind.i64 1))]) (fi := []) (ca := [_]) S (enters_of Try.func31 (by decide) rfl) rfl rfl (rfl) rfl (put_at _ _ 1 bB _ _ _ _ _ _ _ M rfl (by decide) (by (try simp only [List.length_append, leB_length, List.length_nil] at *); omega)) ?_
      rintro _ w24 ⟨u1, lo1, hi1, rfl, M'⟩; refine ⟨_, rfl, ?_⟩; clear S a M; intro a S; have M := M'; clear M'
      replace S := S.sub [(1, _), (4, _), (5, _), (6, _), (42, _), (43, _), (8, _), (49, _), (50, _), (51, _), (68, _), (74, _), (81, _), (87, _), (93, _), (99, _), (107, _)] rfl
      refine wpList_nil ?_
      refine block_normal ?_
      refine block_normal ?_
      refine then_normal ?_
      first
        | (exfalso; omega)
        | (refine ⟨S.sub _ rfl, rowAt M ?_⟩; rw [encS_no (h := khas m.kind) (nrmA h49)]; done)
        | (refine ⟨S.sub _ rfl, rowAt M ?_⟩; rw [encS_yes (h := khas m.kind) (nrmB h49)]; simp only [fB, h102, reduceIte, Bool.false_eq_true]; done)
        | (refine ⟨S.sub _ rfl, rowAt M ?_⟩; rw [encS_yes (h := khas m.kind) (nrmB h49)]; simp only [fB, nmB, List.append_assoc]; done)
        | (suffices hj0 : j = x.length by
             (subst hj0; refine ⟨S.sub _ rfl, rowAt M ?_⟩; rw [encS_yes (h := khas m.kind) (nrmB h49), List.take_length]; simp only [fB, wsB]; done)
           omega)
    clear S; intro h107 S
    refine st_condF S rfl ?_
    refine nxD ?_
    refine st_go [1, 1] S rfl (by kernel_rfl) ?_; clear S a; intro a S
    replace S := S.sub [(1, _), (4, _), (5, _), (6, _), (42, _), (43, _), (8, _), (49, _), (50, _), (51, _), (68, _), (74, _), (81, _), (87, _), (93, _), (99, _), (107, _), (113, _)] rfl
    refine nxC ?_
    refine st_if (t := 113) S rfl ?_ ?_
    · clear S; intro h113 S
      refine st_condT S rfl ?_
      obtain rfl : k = 8 := by omega
      refine wp_region_lit ?_
      refine st_run [1, 23, 4] S M rfl (by kernel_rfl) ?_; clear S a; intro a S
      refine st_callB (xs := [(Operand.tmp 117), (Operand.const (Value.int IntKind.i64 1))]) (fi := []) (ca := [_]) S (enters_of Try.func31 (by decide) rfl) rfl rfl (rfl) rfl (put_at _ _ 1 bB _ _ _ _ _ _ _ M rfl (by decide) (by (try simp only [List.length_append, leB_length, List.length_nil] at *); omega)) ?_
      rintro _ w25 ⟨u1, lo1, hi1, rfl, M'⟩; refine ⟨_, rfl, ?_⟩; clear S a M; intro a S; have M := M'; clear M'
      refine wpList_nil ?_
      refine block_normal ?_
      refine block_normal ?_
      refine then_normal ?_
      first
        | (exfalso; omega)
        | (refine ⟨S.sub _ rfl, rowAt M ?_⟩; rw [encS_no (h := khas m.kind) (nrmA h49)]; done)
        | (refine ⟨S.sub _ rfl, rowAt M ?_⟩; rw [encS_yes (h := khas m.kind) (nrmB h49)]; simp only [fB, h102, reduceIte, Bool.false_eq_true]; done)
        | (refine ⟨S.sub _ rfl, rowAt M ?_⟩; rw [encS_yes (h := khas m.kind) (nrmB h49)]; simp only [fB, nmB, List.append_assoc]; done)
        | (suffices hj0 : j = x.length by
             (subst hj0; refine ⟨S.sub _ rfl, rowAt M ?_⟩; rw [encS_yes (h := khas m.kind) (nrmB h49), List.take_length]; simp only [fB, wsB]; done)
           omega)
    clear S; intro h113 S
    refine st_condF S rfl ?_
    refine nxD ?_
    refine st_go [1, 1] S rfl (by kernel_rfl) ?_; clear S a; intro a S
    refine nxC ?_
    refine st_fi (t := 119) S rfl ?_ ?_
    · clear S; intro h119 S
      refine st_condF S rfl ?_
      refine wp_skip ?_
      refine block_normal ?_
      refine block_normal ?_
      refine then_normal ?_
      first
        | (exfalso; omega)
        | (refine ⟨S.sub _ rfl, rowAt M ?_⟩; rw [encS_no (h := khas m.kind) (nrmA h49)]; done)
        | (refine ⟨S.sub _ rfl, rowAt M ?_⟩; rw [encS_yes (h := khas m.kind) (nrmB h49)]; simp only [fB, h102, reduceIte, Bool.false_eq_true]; done)
        | (refine ⟨S.sub _ rfl, rowAt M ?_⟩; rw [encS_yes (h := khas m.kind) (nrmB h49)]; simp only [fB, nmB, List.append_assoc]; done)
        | (suffices hj0 : j = x.length by
             (subst hj0; refine ⟨S.sub _ rfl, rowAt M ?_⟩; rw [encS_yes (h := khas m.kind) (nrmB h49), List.take_length]; simp only [fB, wsB]; done)
           omega)
    clear S; intro h119 S
    refine st_condT S rfl ?_
    refine wp_seq ?_
    obtain rfl : k = 9 := by omega
    refine wp_region_lit ?_
    refine st_run [1, 24, 4] S M rfl (by kernel_rfl) ?_; clear S a; intro a S
    refine st_y S rfl rfl rfl (y_lenS (E := 72) S rfl (by kernel_rfl)) ?_; clear S a; intro a S
    refine st_callB (xs := [(Operand.tmp 124), (Operand.const (Value.int IntKind.i64 1))]) (fi := []) (ca := [_]) S (enters_of Try.func31 (by decide) rfl) rfl rfl (rfl) rfl (put_at _ _ 1 bB _ _ _ _ _ _ _ M rfl (by decide) (by (try simp only [List.length_append, leB_length, List.length_nil] at *); omega)) ?_
    rintro _ w26 ⟨u1, lo1, hi1, rfl, M'⟩; refine ⟨_, rfl, ?_⟩; clear S a M; intro a S; have M := M'; clear M'
    refine nxA ?_
    refine st_run [24, 4] S M rfl (by kernel_rfl) ?_; clear S a; intro a S
    refine st_y S rfl rfl rfl (y_lenS (E := 72) S rfl (by kernel_rfl)) ?_; clear S a; intro a S
    refine st_go [1] S rfl (by kernel_rfl) ?_; clear S a; intro a S
    refine nxC ?_
    refine wp_block ?_
    refine wp_loop_g (fun q a w' => ∃ (j : Nat), j ≤ x.length ∧ q = x.length - j ∧ Sees 145 a [(1, .pointer (some ⟨bA, 0, none⟩)), (4, .pointer (some ⟨bB, 0, none⟩)), (5, .func (.func 31) #[] #[.pointer (some ⟨bB, 0, none⟩)]), (6, .pointer (some ⟨bK, 0, none⟩)), (42, .int .i64 ((9 : Nat) : Int)), (127, .slice va x.length vc), (128, .int .i64 (x.length : Int)), (129, .int .i64 (j : Int))] ∧ RowAt w w' bB (hdB m ++ bodyP (khas m.kind) m x 9 ++ (leB x.length 1 ++ wrsB (x.take j))) [.blk bK (kdL (kdown m.kind) (khas m.kind)).toArray 68, .blk bA (m.cells (.slice va x.length vc)) 42]) (x.length) ?_ ?_
    · skip
      exact ⟨0, by omega, rfl, S.sub _ rfl, rowAt M (by simp [wrsB])⟩
    clear S M a; intro m a wl
    rintro ⟨j, hj, rfl, S, u, lo, hi, M⟩
    have hlen2 : (hdB m ++ bodyP (khas m.kind) m x 9 ++ (leB x.length 1 ++ wrsB (x.take j))).length ≤ 99200 := by
      simp only [List.length_append, leB_length, wrsB_len, List.length_take] at hlen ⊢; omega
    refine nxD ?_
    refine st_go [1] S rfl (by kernel_rfl) ?_; clear S a; intro a S
    refine nxC ?_
    refine wp_seq ?_
    refine st_fi (t := 130) S rfl ?_ ?_
    · clear S; intro h130 S
      refine st_condF S rfl ?_
      refine wp_exit ?_
      refine then_exit ?_
      refine then_exit ?_
      refine block_hit ?_
      refine block_normal ?_
      refine block_normal ?_
      refine then_normal ?_
      first
        | (exfalso; omega)
        | (refine ⟨S.sub _ rfl, rowAt M ?_⟩; rw [encS_no (h := khas m.kind) (nrmA h49)]; done)
        | (refine ⟨S.sub _ rfl, rowAt M ?_⟩; rw [encS_yes (h := khas m.kind) (nrmB h49)]; simp only [fB, h102, reduceIte, Bool.false_eq_true]; done)
        | (refine ⟨S.sub _ rfl, rowAt M ?_⟩; rw [encS_yes (h := khas m.kind) (nrmB h49)]; simp only [fB, nmB, List.append_assoc]; done)
        | (suffices hj0 : j = x.length by
             (subst hj0; refine ⟨S.sub _ rfl, rowAt M ?_⟩; rw [encS_yes (h := khas m.kind) (nrmB h49), List.take_length]; simp only [fB, wsB]; done)
           omega)
    clear S; intro h130 S
    refine st_condT S rfl ?_
    refine wp_skip ?_
    refine then_normal ?_
    refine wp_seq ?_
    refine wp_block ?_
    refine nxD ?_
    obtain ⟨p, hp⟩ : ∃ p, x[j]? = some p := ⟨_, List.getElem?_eq_getElem (by omega)⟩
    refine st_y S rfl rfl rfl (y_indexR (e := 72) (sz := 9) S (by kernel_rfl) rfl ((M.arg hv)) rfl (by first | omega | (simp; done) | (simp; omega))) ?_; clear S a; intro a S
    try simp only [Int.toNat_natCast, Nat.mul_one, Nat.zero_add] at S
    refine st_y S rfl rfl rfl (y_loadAgg S (by kernel_rfl) rfl rfl ((M.arg hv).at_.row (i := j) (wcells_get hp) rfl)) ?_; clear S a; intro a S
    refine st_alloc S M rfl rfl #[.int .i64 0, .int .u8 0, .int .u8 0, .int .u8 0, .int .u8 0, .int .u8 0, .int .u8 0, .int .u8 0, .int .u8 0] (by kernel_rfl) ?_; clear S M a; intro a w27 bW S M hB
    refine st_store (sz := 9) (us := [_, _, _, _, _, _, _, _, _]) S M 0 rfl (by kernel_rfl) rfl rfl rfl rfl rfl rfl (by first | decide | (simp; done) | (simp; omega)) ?_; clear M; intro w28 M
    simp only [putL, List.set_cons_zero, List.set_cons_succ, Nat.reduceAdd] at M
    refine nxC ?_
    refine wp_seq ?_
    replace M := M.front 2 rfl
    simp only [List.eraseIdx_cons_succ, List.eraseIdx_cons_zero] at M
    replace M := M.front 2 rfl
    simp only [List.eraseIdx_cons_succ, List.eraseIdx_cons_zero] at M
    refine wp_region_lit ?_
    refine st_run [1, 1, 3] S M rfl (by kernel_rfl) ?_; clear S a; intro a S
    refine st_callB (xs := [(Operand.tmp 135), (Operand.const (Value.int IntKind.i64 1))]) (fi := []) (ca := [_]) S (enters_of Try.func31 (by decide) rfl) rfl rfl (rfl) rfl (put_at _ _ 1 bB _ _ _ _ _ _ _ M rfl (by decide) (by (try simp only [List.length_append, leB_length, List.length_nil] at *); omega)) ?_
    rintro _ w29 ⟨u1, lo1, hi1, rfl, M'⟩; refine ⟨_, rfl, ?_⟩; clear S a M; intro a S; have M := M'; clear M'
    refine nxC ?_
    refine wp_regionK [3, 4] #[false, false, false, false, false] rfl M (by kernel_rfl) ?_; clear M; intro w30 M
    refine k_read (listed' := #[true, false, false, false, false]) 0 S rfl rfl rfl rfl (by kernel_rfl) rfl (fun _ d _ _ _ h => by cases d <;> exact h) (fun w hW => have M := M.grow hW; y_load S (by kernel_rfl) rfl (M.cell 0 rfl rfl)) ?_; clear S a; intro a S
    refine k_pure (listed' := #[true, true, false, false, false]) 1 S rfl rfl rfl rfl (by kernel_rfl) rfl (fun _ d _ _ _ h => by cases d <;> exact h) (fun w => y_fieldAddr (k := 1) S (by kernel_rfl) rfl) ?_; clear S a; intro a S
    refine k_pure (listed' := #[true, true, true, false, false]) 2 S rfl rfl rfl rfl (by kernel_rfl) rfl (fun _ d _ _ _ h => by cases d <;> exact h) (fun w => y_sliceA (m := 8) (sz := 1) S (by kernel_rfl) rfl) ?_; clear S a; intro a S
    refine k_one (listed' := #[true, true, true, true, false]) 3 rfl (by kernel_rfl) rfl ?_
    refine st_append (e := 5) (sz := 1) (by_ := 1) (zc := [.int .u8 0]) S M 1 rfl rfl (by kernel_rfl) rfl (by decide) rfl rfl rfl (show Rd _ _ _ 1 _ 8 (bcells p.val.bs) from M.sliceAt 2 rfl (M.cellsAt (k := 8) 2 rfl rfl) rfl (Nat.le_refl _) (by unfold maxLen; omega)) (allOne_bcells _) (by first | omega | (simp only [List.length_append, leB_length] at *; omega)) (by simp only [List.length_append, leB_length] at *; unfold maxLen; omega) ?_; clear S M a; intro a w31 vA loA hiA S M
    refine wpList_nil ?_; refine then_normal ?_; refine ⟨fun h => absurd h (by decide), ?_⟩
    refine k_one (listed' := #[true, true, true, true, true]) 4 rfl (by kernel_rfl) rfl ?_
    replace M := M.rowC (ys := p.val.bs) rfl
    have hl9 : (hdB m ++ bodyP (khas m.kind) m x 9 ++ (leB x.length 1 ++ wrsB (x.take j)) ++ leB p.block 1 ++ p.val.bs).length ≤ 99300 := by rw [List.length_append, List.length_append (bs := leB p.block 1), leB_length]; have : p.val.bs.length = 8 := rfl; omega
    obtain ⟨aA, cA, rfl, -, -⟩ := (M.readAll 0 rfl (by unfold maxLen; omega)).form
    refine st_store (sz := 1) (us := [_]) S M 1 rfl (by kernel_rfl) rfl rfl rfl rfl rfl rfl (by first | decide | (simp; done) | (simp; omega)) ?_; clear M; intro w32 M
    simp only [putL, List.set_cons_zero, List.set_cons_succ, Nat.reduceAdd] at M
    refine wpList_nil ?_; refine then_normal ?_; refine ⟨fun h => absurd h (by decide), ?_⟩
    refine k_end (by kernel_rfl) ?_
    refine block_normal ?_
    refine nxF ?_
    (first | refine st_y S rfl rfl rfl (y_addN S rfl rfl (by first | omega | (simp only [List.length_append, leB_length] at *; omega))) ?_ | refine st_y S rfl rfl rfl (y_int S rfl rfl rfl) ?_); clear S a; intro a S
    refine st_go [1] S rfl (by kernel_rfl) ?_; clear S a; intro a S
    refine nxC ?_
    replace M := M.front 1 rfl
    simp only [List.eraseIdx_cons_succ, List.eraseIdx_cons_zero] at M
    replace M := M.drop 2
    simp only [List.eraseIdx_cons_succ, List.eraseIdx_cons_zero] at M
    exact ⟨x.length - (j + 1), by omega, j + 1, by omega, rfl, S.sub _ rfl, rowAt M (by rw [wrsB_succ hp]; simp only [wrB, List.append_assoc])⟩
  clear S a M; intro a wc
  rintro ⟨S, u, lo, hi, M⟩
  refine wp_region_lit ?_
  (first | refine st_y S rfl rfl rfl (y_addN S rfl rfl (by first | omega | (simp only [List.length_append, leB_length] at *; omega))) ?_ | refine st_y S rfl rfl rfl (y_int S rfl rfl rfl) ?_); clear S a; intro a S
  refine st_go [1] S rfl (by kernel_rfl) ?_; clear S a; intro a S
  refine nxC ?_
  exact ⟨10 - (k + 1), by omega, k + 1, by omega, rfl, S.sub _ rfl, u, lo, hi, M⟩

end Go.Proofs.Ytojgcgaoajfihaa
