/-
  Package recover: apart, Apply.
-/
import Derived.Test.YtodfphphidhjbaaRw
import Derived.Test.YtodfphphidhjbaaRb
import Derived.Test.YtodfphphidhjbaaJoin
import Derived.Test.YtodfphphidhjbaaEqF
namespace Go.Proofs.Ytodfphphidhjbaa
open Go.RowKit Go.Sort

/-- a store whose doubt lies in new memory -/
def NewSt (s : St) (ps : Pl) (w w' : World) (dv : Value) : Prop := ∃ lo hi cs es, Mem w w' (rowE lo hi 52 6 dv ps.length cs :: es) ∧ PrBk cs ps es
def ApartPost (s : St) (ps : Pl) (w : World) (e : Ending) (w' : World) : Prop := ∃ dv, e = .returned (.agg (s.cellsL dv).toArray) ∧ NewSt s ps w w' dv
theorem take_snocP {α : Type} {l : List α} {k : Nat} {x : α} (h : l[k]? = some x) : l.take (k + 1) = l.take k ++ [x] := by
  obtain ⟨hlt, he⟩ := List.getElem?_eq_some_iff.1 h
  rw [List.take_succ_eq_append_getElem hlt, he]
abbrev zPr : List Value := [.int .i64 0, .int .i64 0, .int .i64 0, .slice none 0 0, .int .i64 0, .int .i64 0]
set_option maxHeartbeats 1000000 in
theorem apart_any (s : St) (hs : s.ok) (dv : Value) (cs : List Value) (ps : Pl) (w : World) (hd : PrsC cs 0 w.heap.size w dv ps) (hps : ps.length ≤ 10000) (hws : ∀ (i : Nat) (q : Pr × List Wr), ps[i]? = some q → q.2.length ≤ 1000000) :
    Calls Try.prog 9 #[.agg (s.cellsL dv).toArray] w (ApartPost s ps w) := by
  have M := Mem.start w
  refine calls_enter Try.func9 rfl 27 rfl rfl ?_; intro a S
  refine nxD ?_
  refine st_box S M rfl rfl rfl _ rfl ?_; clear S M a; intro a w1 bS S M hB
  refine st_alloc S M rfl rfl (zSt.cellsL (.slice none 0 0)).toArray (by kernel_rfl) ?_; clear S M a; intro a w2 bR S M hB
  refine nxA ?_
  refine st_go [272] S rfl (by kernel_rfl) ?_; clear S a; intro a S
  refine st_y S rfl rfl rfl (y_load S (by kernel_rfl) rfl (M.cell 1 rfl (St.doubt hs dv))) ?_; clear S a; intro a S
  refine st_y S rfl rfl rfl (y_lenR (E := 52) S rfl ((M.prs hd).1) (by kernel_rfl)) ?_; clear S a; intro a S
  refine st_make (e := 52) (sz := 6) (by_ := 64) (zc := [.int .i64 0, .int .i64 0, .int .i64 0, .slice none 0 0, .int .i64 0, .int .i64 0]) S M rfl rfl (by kernel_rfl) rfl rfl (by omega) (by omega) (by omega) (by omega) ?_; clear S M a; intro a w3 bL S M hB
  try simp only [Int.toNat_natCast, Int.reduceToNat, Nat.reduceMul] at S M
  refine st_go [1] S rfl (by kernel_rfl) ?_; clear S a; intro a S
  refine nxC ?_
  refine wp_seq ?_
  refine nxD ?_
  refine st_go [272] S rfl (by kernel_rfl) ?_; clear S a; intro a S
  refine st_y S rfl rfl rfl (y_load S (by kernel_rfl) rfl (M.cell 2 rfl (St.doubt hs dv))) ?_; clear S a; intro a S
  refine st_y S rfl rfl rfl (y_lenR (E := 52) S rfl ((M.prs hd).1) (by kernel_rfl)) ?_; clear S a; intro a S
  refine st_go [1] S rfl (by kernel_rfl) ?_; clear S a; intro a S
  refine nxC ?_
  refine wp_block ?_
  refine wp_loop_g (fun m a w' => ∃ (k : Nat), k ≤ ps.length ∧ m = ps.length - k ∧ Sees 27 a [(1, .pointer (some ⟨bS, 0, none⟩)), (2, .pointer (some ⟨bR, 0, none⟩)), (3, .slice (some ⟨bL, 0, none⟩) ps.length ps.length), (11, dv), (12, .int .i64 (ps.length : Int)), (13, .int .i64 (k : Int))] ∧ ∃ ck zk es, Mem w w' (.blk bL (ck ++ zk).toArray 52 :: .blk bR (zSt.cellsL (.slice none 0 0)).toArray 34 :: .blk bS (s.cellsL dv).toArray 34 :: es) ∧ PrBk ck (ps.take k) es ∧ zk.length = (ps.length - k) * 6) (ps.length) ?_ ?_
  · skip
    exact ⟨0, Nat.zero_le _, rfl, S.sub _ rfl, [], madeL zPr (ps.length * 6), [], M, PrBk.nil, by rw [madeL_length]; rfl⟩
  clear S M a; intro m a wl
  rintro ⟨k, hk, rfl, S, ck, zk, es, M, hBk, hz⟩
  refine nxD ?_
  refine st_go [1] S rfl (by kernel_rfl) ?_; clear S a; intro a S
  refine nxC ?_
  refine wp_seq ?_
  refine st_fi (t := 14) S rfl ?_ ?_
  · clear S; intro h14 S
    refine st_condF S rfl ?_
    refine wp_exit ?_
    refine then_exit ?_
    refine then_exit ?_
    refine block_hit ?_
    refine then_normal ?_
    refine wp_seq ?_
    obtain rfl : k = ps.length := by omega
    rw [List.take_length] at hBk
    obtain rfl : zk = [] := List.eq_nil_of_length_eq_zero (by omega)
    rw [List.append_nil] at M
    refine wp_region_lit ?_
    refine st_go [1, 272] S rfl (by kernel_rfl) ?_; clear S a; intro a S
    refine st_store (sz := 1) (us := [_]) S M 2 rfl (by kernel_rfl) rfl rfl rfl rfl rfl rfl (by rw [St.len hs]; exact (by decide : 272 ≤ 273)) ?_; clear M; intro w7 M
    simp only [putL, List.set_cons_zero, List.set_cons_succ, Nat.reduceAdd] at M
    refine nxC ?_
    refine wp_seq ?_
    rw [St.setD hs] at M
    refine wp_region_lit ?_
    refine st_y S rfl rfl rfl (y_loadAgg (k := 273) (cs := _) S (by kernel_rfl) rfl (by first | exact St.len hs _ | exact St.len zSt_ok _) (M.cellsAt 2 rfl cutL_all)) ?_; clear S a; intro a S
    refine st_storeAll (sz := 273) S M 1 rfl (by kernel_rfl) rfl rfl (by first | exact St.len hs _ | exact St.len zSt_ok _) (by exact St.one hs _ rfl) rfl (by first | exact St.len hs _ | exact St.len zSt_ok _) ?_; clear M; intro w8 M
    simp only [List.set_cons_zero, List.set_cons_succ] at M
    refine nxC ?_
    refine wp_ret ?_
    refine end_one S rfl (res_agg (k := 273) (cs := _) (by kernel_rfl) rfl (by first | exact St.len hs _ | exact St.len zSt_ok _) (M.cellsAt 1 rfl cutL_all)) ?_
    replace M := M.drop 1
    simp only [List.eraseIdx_cons_succ, List.eraseIdx_cons_zero] at M
    replace M := M.drop 1
    simp only [List.eraseIdx_cons_succ, List.eraseIdx_cons_zero] at M
    replace M := M.toRow (sz := 6) (m := ps.length) (cap := ps.length) (xs := ck) 0 rfl hBk.1 (Nat.le_refl _) (by unfold maxLen; omega) (by rw [List.size_toArray, hBk.1]) (by rw [List.toList_toArray, ← hBk.1, List.take_length])
    exact ⟨_, rfl, _, _, ck, es, M, hBk⟩
  clear S; intro h14 S
  refine st_condT S rfl ?_
  refine wp_skip ?_
  refine then_normal ?_
  refine wp_seq ?_
  refine wp_block ?_
  refine nxD ?_
  have hk' : k < ps.length := by omega
  obtain ⟨q, hq⟩ : ∃ q, ps[k]? = some q := ⟨_, List.getElem?_eq_getElem hk'⟩
  obtain ⟨ad, cp, hrow, hw⟩ := hd.sl hq
  refine st_y S rfl rfl rfl (y_move S rfl) ?_; clear S a; intro a S
  refine st_y S rfl rfl rfl (y_indexR (e := 52) (sz := 6) S (by kernel_rfl) rfl ((M.prs hd).1) rfl (by first | omega | (simp; done) | (simp; omega))) ?_; clear S a; intro a S
  try simp only [Int.toNat_natCast, Nat.mul_one, Nat.zero_add] at S
  refine st_y S rfl rfl rfl (y_loadAgg S (by kernel_rfl) rfl rfl ((M.prs hd).1.at_.row (i := k) hrow rfl)) ?_; clear S a; intro a S
  refine st_alloc S M rfl rfl #[.int .i64 0, .int .i64 0, .int .i64 0, .slice none 0 0, .int .i64 0, .int .i64 0] (by kernel_rfl) ?_; clear S M a; intro a w4 bP S M hB
  refine st_go [1] S rfl (by kernel_rfl) ?_; clear S a; intro a S
  refine st_store (sz := 6) (us := [_, _, _, _, _, _]) S M 0 rfl (by kernel_rfl) rfl rfl rfl rfl rfl rfl (by first | decide | (simp; done) | (simp; omega)) ?_; clear M; intro w5 M
  simp only [putL, List.set_cons_zero, List.set_cons_succ, Nat.reduceAdd] at M
  refine nxB ?_
  refine st_go [1, 1] S rfl (by kernel_rfl) ?_; clear S a; intro a S
  refine st_y S rfl rfl rfl (y_loadAgg (cs := [_, _, _, _, _, _]) S (by kernel_rfl) rfl rfl (M.cellsAt (k := 6) 0 rfl rfl)) ?_; clear S a; intro a S
  refine st_call (xs := [(Operand.tmp 20)]) S (enters_of Try.func15 (by decide) rfl) rfl rfl rfl (alone_any q.1 ad cp q.2 _ (M.argW hw) (hws k q hq)) ?_
  rintro _ w6 ⟨ad2, cp2, rfl, hF⟩; refine ⟨_, rfl, ?_⟩; clear S a; intro a S
  obtain ⟨lo1, hi1, -, M⟩ := M.pushFresh hF
  refine st_y S rfl rfl rfl (y_indexS (e := 52) (sz := 6) S (by kernel_rfl) rfl rfl (by first | omega | (simp; done) | (simp; omega))) ?_; clear S a; intro a S
  try simp only [Int.toNat_natCast, Nat.mul_one, Nat.zero_add] at S
  have hck : ck.length = k * 6 := by rw [hBk.1, List.length_take, Nat.min_eq_left hk]
  refine st_store (o := k * 6) (l := ck ++ zk) (sz := 6) (us := q.1.cellsL (.slice ad2 q.2.length cp2)) S M 2 rfl (by kernel_rfl) rfl rfl rfl rfl rfl rfl (by rw [List.length_append, hck, hz]; show k * 6 + 6 ≤ _; omega) ?_; clear M; intro wz M
  simp only [List.set_cons_zero, List.set_cons_succ] at M
  refine wpList_nil ?_
  refine block_normal ?_
  refine nxF ?_
  (first | refine st_y S rfl rfl rfl (y_addN S rfl rfl (by omega)) ?_ | refine st_y S rfl rfl rfl (y_int S rfl rfl rfl) ?_); clear S a; intro a S
  refine st_go [1] S rfl (by kernel_rfl) ?_; clear S a; intro a S
  refine nxC ?_
  replace M := M.drop 1
  simp only [List.eraseIdx_cons_succ, List.eraseIdx_cons_zero] at M
  replace M := M.front 3 rfl
  simp only [List.eraseIdx_cons_succ, List.eraseIdx_cons_zero] at M
  replace M := M.front 3 rfl
  simp only [List.eraseIdx_cons_succ, List.eraseIdx_cons_zero] at M
  replace M := M.front 3 rfl
  simp only [List.eraseIdx_cons_succ, List.eraseIdx_cons_zero] at M
  have hBk' := hBk.more (q := q) (ad := ad2) (cp := cp2) (lo := lo1) (hi := hi1) (hws k q hq)
  rw [← take_snocP hq] at hBk'
  have e : putL (ck ++ zk) (k * 6) (q.1.cellsL (.slice ad2 q.2.length cp2)) = (ck ++ q.1.cellsL (.slice ad2 q.2.length cp2)) ++ zk.drop 6 := by
    rw [putL_eq _ _ _ (by rw [List.length_append, hck, hz]; show k * 6 + 6 ≤ _; omega), ← hck, List.take_left]
    congr 1
    rw [List.drop_append, List.drop_of_length_le (by omega), List.nil_append, Nat.add_sub_cancel_left]; rfl
  rw [e] at M
  exact ⟨ps.length - (k + 1), by omega, k + 1, by omega, rfl, S.sub _ rfl, _, zk.drop 6, _, M, hBk', by rw [List.length_drop, hz]; omega⟩

end Go.Proofs.Ytodfphphidhjbaa
