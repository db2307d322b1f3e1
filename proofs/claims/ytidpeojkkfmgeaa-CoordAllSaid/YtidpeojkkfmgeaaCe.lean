/-
  Package coord: prepares, find, abort.
-/
import Derived.Test.YtidpeojkkfmgeaaCd
namespace Go.Proofs.Ytidpeojkkfmgeaa
open Go.RowKit Go.Sort

section
variable {wc w : World} {H : List Ent} {b : Nat} {ds : Dl} {ml : Mls} {kl : Kl} {el : El} {es : List Ent}
set_option maxHeartbeats 400000 in
theorem preparesF_any {la : Option Addr} {ln lc llo lhi : Nat} {lcs : List Value} (W : MacF la ln lc llo lhi lcs wc w H b ds ml kl el es) (d : Dr) (dl : Value) (x : List Wr) (n : Int) (hml : ml.length ≤ 90000) (hw : WrAt dl x es) (hc : d.cs < 8) :
    Calls Try.prog 42 #[.pointer (some ⟨b, 0, none⟩), .agg (d.cells dl), .int .i64 n] w (fun e w' => e = .returned (.tuple #[]) ∧ ∃ es', (∀ e ∈ es, e ∈ es') ∧ MacF la ln lc llo lhi lcs wc w' H b ds (ml ++ (bitsK n 4).map (prepM d x)) kl el es') := by
  obtain ⟨da, dc, rfl, hxl⟩ := hw.form
  obtain ⟨ma, mc, mlo, mhi, mcs, ka, kc, klo, khi, kcs, ea, ec, elo, ehi, ecs, hln, M, hD, hM, hK, hEn⟩ := W
  refine calls_enter Try.func42 rfl 12 rfl rfl ?_; intro a S
  refine wp_seq ?_
  skip
  refine wp_region_lit ?_
  refine st_box S M rfl rfl rfl #[_, _, _, _, _, _, _, _, _, _] rfl ?_; clear S M a; intro a w1 bX S M hB
  refine nxA ?_
  refine st_go [1] S rfl (by kernel_rfl) ?_; clear S a; intro a S
  refine st_y S rfl rfl rfl (y_makeFunc (fs := [(Operand.tmp 7)]) (cs := []) S rfl rfl) ?_; clear S a; intro a S
  refine st_alloc S M rfl rfl #[.nilFunc] (by kernel_rfl) ?_; clear S M a; intro a w2 bN S M hB
  refine st_store (sz := 1) (us := [_]) S M 0 rfl (by kernel_rfl) rfl rfl rfl rfl rfl rfl (by first | decide | (simp; done) | (simp; omega)) ?_; clear M; intro w3 M
  simp only [putL, List.set_cons_zero, List.set_cons_succ, Nat.reduceAdd] at M
  refine nxB ?_
  refine st_go [1] S rfl (by kernel_rfl) ?_; clear S a; intro a S
  refine st_y S rfl rfl rfl (y_makeFunc (fs := []) (cs := [(Operand.tmp 4), (Operand.tmp 6)]) S rfl rfl) ?_; clear S a; intro a S
  replace M := M.perm perm15
  refine st_call (xs := [(Operand.tmp 9), (Operand.tmp 10)]) S (enters_of Try.func63 (by decide) rfl) rfl rfl rfl (each_any (fi := []) (ca := [.pointer (some ⟨bX, 0, none⟩), .pointer (some ⟨bN, 0, none⟩)]) (enters_of Try.func64 (by decide) rfl) n (fun l w' => ∃ es', (∀ e ∈ es, e ∈ es') ∧ MacF la ln lc llo lhi lcs wc w' (.blk bN #[.func (.func 62) #[.pointer (some ⟨b, 0, none⟩)] #[]] 69 :: .blk bX (d.cells (.slice da x.length dc)) 59 :: H) b ds (ml ++ l.map (prepM d x)) kl el es') _ ⟨es, fun _ h => h, ma, mc, mlo, mhi, mcs, ka, kc, klo, khi, kcs, ea, ec, elo, ehi, ecs, hln, by simpa using M, hD, by simpa using hM, hK, hEn⟩ (fun k l w' h1 h4 hl _ ⟨es1, he1, W'⟩ => (prepares1F_any d _ x k (by simp; omega) (hw.mono he1) hc W').mono fun e w'' ⟨he, es2, he2, h⟩ => ⟨he, es2, fun e h => he2 e (he1 e h), by rw [List.map_append, ← List.append_assoc]; exact h⟩)) ?_
  rintro _ w4 ⟨rfl, es2, hes, W1⟩; refine ⟨_, rfl, ?_⟩; clear S a; intro a S
  refine wpList_nil ?_
  refine end_noneN S rfl ?_
  exact ⟨rfl, es2, hes, W1.less (.cons _ (.cons _ (List.Sublist.refl _)))⟩
theorem prepares_any (W : MacE wc w H b ds ml kl el es) (d : Dr) (dl : Value) (x : List Wr) (n : Int) (hml : ml.length ≤ 90000) (hw : WrAt dl x es) (hc : d.cs < 8) :
    Calls Try.prog 42 #[.pointer (some ⟨b, 0, none⟩), .agg (d.cells dl), .int .i64 n] w (fun e w' => e = .returned (.tuple #[]) ∧ ∃ es', (∀ e ∈ es, e ∈ es') ∧ MacE wc w' H b ds (ml ++ (bitsK n 4).map (prepM d x)) kl el es') := by
  obtain ⟨la, ln, lc, llo, lhi, lcs, W⟩ := W
  exact (preparesF_any W d dl x n hml hw hc).mono fun e w' ⟨he, es', h1, h2⟩ => ⟨he, es', h1, la, ln, lc, llo, lhi, lcs, h2⟩
end
/-- where a name is driven -/
def FindD (ds : Dl) (nm : Nm) (k : Nat) (y : Bool) : Prop := k ≤ ds.length ∧ ((y = true ∧ ∃ q, ds[k]? = some q ∧ q.1.name = nm) ∨ (y = false ∧ ∀ (i : Nat) (q : Dr × List Wr), ds[i]? = some q → q.1.name ≠ nm))
set_option maxHeartbeats 1000000 in
theorem find_any (va : Option Addr) (vc : Nat) (cs : List Value) (ds : Dl) (nm : Nm) (w : World) (hv : RowC drS cs 0 w.heap.size w (.slice va ds.length vc) ds) (hr : risesB ds = true) (hl : ds.length ≤ 1000) :
    Calls Try.prog 38 #[.slice va ds.length vc, .agg nm.cells, .func (.func 39) #[] #[]] w (fun e w' => ∃ (k : Nat) (y : Bool), e = .returned (.tuple #[.int .i64 (k : Int), .bool y]) ∧ Below w.heap.size w w' ∧ FindD ds nm k y) := by
  have M := Mem.start w
  refine calls_enter Try.func38 rfl 48 rfl rfl ?_; intro a S
  refine nxD ?_
  refine st_box S M rfl rfl rfl #[_, _, _] rfl ?_; clear S M a; intro a w1 bN S M hB
  refine st_go [1, 1] S rfl (by kernel_rfl) ?_; clear S a; intro a S
  refine nxA ?_
  refine st_go [1] S rfl (by kernel_rfl) ?_; clear S a; intro a S
  refine st_y S rfl rfl rfl (y_lenS (E := 59) S rfl (by kernel_rfl)) ?_; clear S a; intro a S
  refine st_go [1, 1] S rfl (by kernel_rfl) ?_; clear S a; intro a S
  refine nxC ?_
  refine wp_seq ?_
  refine wp_block ?_
  refine wp_loop_g (fun m a w' => ∃ (lo hi : Nat), lo ≤ hi ∧ hi ≤ ds.length ∧ m = hi - lo ∧ Sees 48 a [(0, .slice va ds.length vc), (2, .func (.func 39) #[] #[]), (4, .pointer (some ⟨bN, 0, none⟩)), (8, .int .i64 (lo : Int)), (9, .int .i64 (hi : Int))] ∧ Mem w w' [.blk bN nm.cells 26] ∧ (∀ (i : Nat) (q : Dr × List Wr), i < lo → ds[i]? = some q → q.1.name.less nm = true) ∧ (∀ (i : Nat) (q : Dr × List Wr), hi ≤ i → ds[i]? = some q → q.1.name.less nm = false)) (ds.length) ?_ ?_
  · skip
    exact ⟨0, ds.length, Nat.zero_le _, Nat.le_refl _, rfl, S.sub _ rfl, M, fun i q h => absurd h (by omega), fun i q h hq => absurd (List.getElem?_eq_some_iff.1 hq).1 (by omega)⟩
  clear S M a; intro m a wl
  rintro ⟨lo, hi, hlh, hhl, rfl, S, M, hlow, hhigh⟩
  refine wp_seq ?_
  refine nxD ?_
  refine st_go [1, 1, 1] S rfl (by kernel_rfl) ?_; clear S a; intro a S
  refine nxC ?_
  refine st_if (t := 15) S rfl ?_ ?_
  · clear S; intro h15 S
    refine st_condT S rfl ?_
    refine wp_skip ?_
    refine then_normal ?_
    refine wp_block ?_
    refine nxD ?_
    refine st_go [1, 1, 1] S rfl (by kernel_rfl) ?_; clear S a; intro a S
    (first | refine st_y S rfl rfl rfl (y_subN S rfl rfl (by omega)) ?_ | refine st_y S rfl rfl rfl (y_int S rfl rfl rfl) ?_); clear S a; intro a S
    refine st_y S rfl rfl rfl (y_quoN S rfl rfl (by omega)) ?_; clear S a; intro a S
    (first | refine st_y S rfl rfl rfl (y_addN S rfl rfl (by omega)) ?_ | refine st_y S rfl rfl rfl (y_int S rfl rfl rfl) ?_); clear S a; intro a S
    refine st_go [1] S rfl (by kernel_rfl) ?_; clear S a; intro a S
    refine nxC ?_
    refine wp_seq ?_
    obtain ⟨mid, hmid, hm1, hm2⟩ : ∃ mid : Nat, (lo : Int) + ((hi : Int) - (lo : Int)) / 2 = (mid : Int) ∧ lo ≤ mid ∧ mid < hi := ⟨lo + (hi - lo) / 2, by omega, by omega, by omega⟩
    rw [hmid] at S
    obtain ⟨q, hq⟩ : ∃ q, ds[mid]? = some q := ⟨_, List.getElem?_eq_getElem (by omega)⟩
    obtain ⟨xa, xc, hrow, hws⟩ := hv.sl hq
    refine wp_regionK [] #[false, false, false, false, false, false, false, false] rfl M (by kernel_rfl) ?_; clear M; intro w2 M
    refine k_pure (listed' := #[true, false, false, false, false, false, false, false]) 0 S rfl rfl rfl rfl (by kernel_rfl) rfl (fun _ d _ _ _ h => by cases d <;> exact h) (fun w => y_move S rfl) ?_; clear S a; intro a S
    refine k_pure (listed' := #[true, true, false, false, false, false, false, false]) 1 S rfl rfl rfl rfl (by kernel_rfl) rfl (fun _ d _ _ _ h => by cases d <;> exact h) (fun w => y_move S rfl) ?_; clear S a; intro a S
    refine k_pure (listed' := #[true, true, true, false, false, false, false, false]) 2 S rfl rfl rfl rfl (by kernel_rfl) rfl (fun _ d _ _ _ h => by cases d <;> exact h) (fun w => y_move S rfl) ?_; clear S a; intro a S
    refine k_read (listed' := #[true, true, true, true, false, false, false, false]) 3 S rfl rfl rfl rfl (by kernel_rfl) rfl (fun _ d _ _ _ h => by cases d <;> exact h) (fun w hW => have M := M.grow hW; y_indexR (e := 59) (sz := 10) S (by kernel_rfl) rfl ((M.rows hv).1) rfl (by first | omega | (simp; done) | (simp; omega))) ?_; clear S a; intro a S
    try simp only [Int.toNat_natCast, Nat.mul_one, Nat.zero_add] at S
    refine k_read (listed' := #[true, true, true, true, true, false, false, false]) 4 S rfl rfl rfl rfl (by kernel_rfl) rfl (fun _ d _ _ _ h => by cases d <;> exact h) (fun w hW => have M := M.grow hW; y_loadAgg S (by kernel_rfl) rfl rfl ((M.rows hv).1.at_.row (i := mid) hrow rfl)) ?_; clear S a; intro a S
    refine k_read (listed' := #[true, true, true, true, true, false, true, false]) 6 S rfl rfl rfl rfl (by kernel_rfl) rfl (fun _ d _ _ _ h => by cases d <;> exact h) (fun w hW => have M := M.grow hW; y_loadAgg (cs := [_, _, _]) S (by kernel_rfl) rfl rfl (M.cellsAt (k := 3) 0 rfl rfl)) ?_; clear S a; intro a S
    refine k_one (listed' := #[true, true, true, true, true, true, true, false]) 5 rfl (by kernel_rfl) rfl ?_
    refine st_callB (xs := [(Operand.tmp 26)]) (fi := []) (ca := []) S (enters_of Try.func39 (by decide) rfl) rfl rfl (rfl) rfl (nameOf_any q.1 _ _) ?_
    rintro _ w3 ⟨rfl, hK⟩; refine ⟨_, rfl, ?_⟩; clear S a; intro a S; replace M := M.grow hK
    refine wpList_nil ?_; refine then_normal ?_; refine ⟨fun _ => hK, ?_⟩
    refine k_one (listed' := #[true, true, true, true, true, true, true, true]) 7 rfl (by kernel_rfl) rfl ?_
    refine st_call (xs := [(Operand.tmp 27), (Operand.tmp 28)]) S (enters_of Try.func20 (by decide) rfl) rfl rfl rfl (less_any q.1.name nm _) ?_
    rintro _ w4 ⟨rfl, hK⟩; refine ⟨_, rfl, ?_⟩; clear S a; intro a S; replace M := M.grow hK
    refine wpList_nil ?_; refine then_normal ?_; refine ⟨fun _ => hK, ?_⟩
    refine k_end (by kernel_rfl) ?_
    replace S := S.sub [(0, _), (2, _), (4, _), (8, _), (9, _), (15, _), (10, _), (29, _)] rfl
    refine then_normal ?_
    refine st_tils (t := 29) S rfl ?_ ?_
    · clear S; intro h29 S
      refine st_condF S rfl ?_
      refine wp_region_lit ?_
      refine st_go [1, 1] S rfl (by kernel_rfl) ?_; clear S a; intro a S
      refine wpList_nil ?_
      refine block_normal ?_
      refine then_normal ?_
      first
        | (refine ⟨hi - (mid + 1), by omega, mid + 1, hi, by omega, hhl, rfl, ?_, M, fun i p hi' hp => ?_, hhigh⟩
           · rw [show ((mid + 1 : Nat) : Int) = (mid : Int) + 1 by omega]; exact S.sub _ rfl
           · rcases Nat.lt_or_ge i mid with h | h
             · exact Nm.less_trans (rises_less hr h hp hq) h29
             · obtain rfl : i = mid := by omega
               rw [hq] at hp; obtain rfl := Option.some.inj hp; exact h29)
        | (refine ⟨mid - lo, by omega, lo, mid, by omega, by omega, rfl, S.sub _ rfl, M, hlow, fun i p hi' hp => ?_⟩
           rcases Nat.lt_or_ge mid i with h | h
           · cases hc : p.1.name.less nm
             · rfl
             · rw [Nm.less_trans (rises_less hr h hq hp) hc] at h29; cases h29
           · obtain rfl : i = mid := by omega
             rw [hq] at hp; obtain rfl := Option.some.inj hp; exact h29)
    clear S; intro h29 S
    refine st_condT S rfl ?_
    refine wp_region_lit ?_
    refine st_go [1] S rfl (by kernel_rfl) ?_; clear S a; intro a S
    (first | refine st_y S rfl rfl rfl (y_addN S rfl rfl (by omega)) ?_ | refine st_y S rfl rfl rfl (y_int S rfl rfl rfl) ?_); clear S a; intro a S
    refine st_go [1] S rfl (by kernel_rfl) ?_; clear S a; intro a S
    refine wpList_nil ?_
    refine block_normal ?_
    refine then_normal ?_
    first
      | (refine ⟨hi - (mid + 1), by omega, mid + 1, hi, by omega, hhl, rfl, ?_, M, fun i p hi' hp => ?_, hhigh⟩
         · rw [show ((mid + 1 : Nat) : Int) = (mid : Int) + 1 by omega]; exact S.sub _ rfl
         · rcases Nat.lt_or_ge i mid with h | h
           · exact Nm.less_trans (rises_less hr h hp hq) h29
           · obtain rfl : i = mid := by omega
             rw [hq] at hp; obtain rfl := Option.some.inj hp; exact h29)
      | (refine ⟨mid - lo, by omega, lo, mid, by omega, by omega, rfl, S.sub _ rfl, M, hlow, fun i p hi' hp => ?_⟩
         rcases Nat.lt_or_ge mid i with h | h
         · cases hc : p.1.name.less nm
           · rfl
           · rw [Nm.less_trans (rises_less hr h hq hp) hc] at h29; cases h29
         · obtain rfl : i = mid := by omega
           rw [hq] at hp; obtain rfl := Option.some.inj hp; exact h29)
  clear S; intro h15 S
  refine st_condF S rfl ?_
  refine wp_exit ?_
  refine then_exit ?_
  refine then_exit ?_
  refine block_hit ?_
  refine then_normal ?_
  refine wp_seq ?_
  obtain rfl : lo = hi := by omega
  obtain ⟨q, hq⟩ : ∃ q, lo < ds.length → ds[lo]? = some q := by
    rcases Nat.lt_or_ge lo ds.length with h | h
    · exact ⟨_, fun _ => List.getElem?_eq_getElem h⟩
    · exact ⟨(zDr, []), fun h' => absurd h' (by omega)⟩
  obtain ⟨xa, xc, hrow⟩ : ∃ xa xc, lo < ds.length → (cs.drop (lo * 10)).take 10 = (q.1.cells (.slice xa q.2.length xc)).toList := by
    rcases Nat.lt_or_ge lo ds.length with h | h
    · obtain ⟨xa, xc, e, -⟩ := hv.sl (hq h); exact ⟨xa, xc, fun _ => e⟩
    · exact ⟨none, 0, fun h' => absurd h' (by omega)⟩
  refine wp_regionK [] #[false, false, false, false, false, false, false, false, false, false, false, false, false, false, false, false, false] rfl M (by kernel_rfl) ?_; clear M; intro w5 M
  refine k_pure (listed' := #[true, false, false, false, false, false, false, false, false, false, false, false, false, false, false, false, false]) 0 S rfl rfl rfl rfl (by kernel_rfl) rfl (fun _ d _ _ _ h => by cases d <;> exact h) (fun w => y_move S rfl) ?_; clear S a; intro a S
  refine k_pure (listed' := #[true, true, false, false, false, false, false, false, false, false, false, false, false, false, false, false, false]) 1 S rfl rfl rfl rfl (by kernel_rfl) rfl (fun _ d _ _ _ h => by cases d <;> exact h) (fun w => y_move S rfl) ?_; clear S a; intro a S
  refine k_pure (listed' := #[true, true, true, false, false, false, false, false, false, false, false, false, false, false, false, false, false]) 2 S rfl rfl rfl rfl (by kernel_rfl) rfl (fun _ d _ _ _ h => by cases d <;> exact h) (fun w => y_move S rfl) ?_; clear S a; intro a S
  refine k_pure (listed' := #[true, true, true, true, false, false, false, false, false, false, false, false, false, false, false, false, false]) 3 S rfl rfl rfl rfl (by kernel_rfl) rfl (fun _ d _ _ _ h => by cases d <;> exact h) (fun w => y_lenS (E := 59) S rfl (by kernel_rfl)) ?_; clear S a; intro a S
  refine k_pure (listed' := #[true, true, true, true, true, false, false, false, false, false, false, false, false, false, false, false, false]) 4 S rfl rfl rfl rfl (by kernel_rfl) rfl (fun _ d _ _ _ h => by cases d <;> exact h) (fun w => y_int S rfl rfl rfl) ?_; clear S a; intro a S
  refine k_pure (listed' := #[true, true, true, true, true, true, false, false, false, false, false, false, false, false, false, false, false]) 5 S rfl rfl rfl rfl (by kernel_rfl) rfl (fun _ d _ _ _ h => by cases d <;> exact h) (fun w => y_move S rfl) ?_; clear S a; intro a S
  refine st_fi (t := 38) S rfl ?_ ?_
  · clear S; intro h38 S
    refine k_no (listed' := #[true, true, true, true, true, true, true, false, false, false, false, false, false, false, false, false, false]) 6 S rfl rfl rfl rfl (by kernel_rfl) rfl (fun _ d _ _ _ h => by cases d <;> exact h) ?_; clear S a; intro a S
    refine k_no (listed' := #[true, true, true, true, true, true, true, true, false, false, false, false, false, false, false, false, false]) 7 S rfl rfl rfl rfl (by kernel_rfl) rfl (fun _ d _ _ _ h => by cases d <;> exact h) ?_; clear S a; intro a S
    refine k_no (listed' := #[true, true, true, true, true, true, true, true, true, false, false, false, false, false, false, false, false]) 8 S rfl rfl rfl rfl (by kernel_rfl) rfl (fun _ d _ _ _ h => by cases d <;> exact h) ?_; clear S a; intro a S
    refine k_no (listed' := #[true, true, true, true, true, true, true, true, true, true, false, false, false, false, false, false, false]) 9 S rfl rfl rfl rfl (by kernel_rfl) rfl (fun _ d _ _ _ h => by cases d <;> exact h) ?_; clear S a; intro a S
    refine k_no (listed' := #[true, true, true, true, true, true, true, true, true, true, true, false, false, false, false, false, false]) 10 S rfl rfl rfl rfl (by kernel_rfl) rfl (fun _ d _ _ _ h => by cases d <;> exact h) ?_; clear S a; intro a S
    refine k_no (listed' := #[true, true, true, true, true, true, true, true, true, true, true, true, false, false, false, false, false]) 11 S rfl rfl rfl rfl (by kernel_rfl) rfl (fun _ d _ _ _ h => by cases d <;> exact h) ?_; clear S a; intro a S
    refine k_no (listed' := #[true, true, true, true, true, true, true, true, true, true, true, true, true, false, false, false, false]) 12 S rfl rfl rfl rfl (by kernel_rfl) rfl (fun _ d _ _ _ h => by cases d <;> exact h) ?_; clear S a; intro a S
    refine k_no (listed' := #[true, true, true, true, true, true, true, true, true, true, true, true, true, true, false, false, false]) 13 S rfl rfl rfl rfl (by kernel_rfl) rfl (fun _ d _ _ _ h => by cases d <;> exact h) ?_; clear S a; intro a S
    refine k_pure (listed' := #[true, true, true, true, true, true, true, true, true, true, true, true, true, true, true, false, false]) 14 S rfl rfl rfl rfl (by kernel_rfl) rfl (fun _ d _ _ _ h => by cases d <;> exact h) (fun w => y_pickF S rfl rfl) ?_; clear S a; intro a S
    refine k_pure (listed' := #[true, true, true, true, true, true, true, true, true, true, true, true, true, true, true, true, false]) 15 S rfl rfl rfl rfl (by kernel_rfl) rfl (fun _ d _ _ _ h => by cases d <;> exact h) (fun w => y_assign S rfl) ?_; clear S a; intro a S
    refine k_pure (listed' := #[true, true, true, true, true, true, true, true, true, true, true, true, true, true, true, true, true]) 16 S rfl rfl rfl rfl (by kernel_rfl) rfl (fun _ d _ _ _ h => by cases d <;> exact h) (fun w => y_assign S rfl) ?_; clear S a; intro a S
    refine k_end (by kernel_rfl) ?_
    replace S := S.sub [(0, _), (2, _), (4, _), (8, _), (9, _), (15, _), (6, _), (7, _)] rfl
    refine then_normal ?_
    refine wp_ret ?_
    refine end_two S rfl (res_tmp rfl) (res_tmp rfl) ?_
    first
      | (refine ⟨lo, _, rfl, M.below, hhl, ?_⟩
         cases hc : q.1.name.eqb nm
         · refine .inr ⟨rfl, fun i p hp => ?_⟩
           rcases Nat.lt_or_ge i lo with h | h
           · intro he; have := hlow i p h hp; rw [he, Nm.less_irr] at this; cases this
           · intro he
             rcases Nat.lt_or_ge lo i with h2 | h2
             · have h3 := hhigh lo q (Nat.le_refl _) (hq (by omega))
               have h4 := rises_less hr h2 (hq (by omega)) hp
               rw [he] at h4; rw [h3] at h4; cases h4
             · obtain rfl : i = lo := by omega
               rw [hq (by omega)] at hp; obtain rfl := Option.some.inj hp
               rw [Nm.eqb_iff.2 he] at hc; cases hc
         · exact .inl ⟨rfl, q, hq (by omega), Nm.eqb_iff.1 hc⟩)
      | (refine ⟨lo, false, rfl, M.below, hhl, .inr ⟨rfl, fun i p hp => ?_⟩⟩
         intro he; have := hlow i p (by have := (List.getElem?_eq_some_iff.1 hp).1; omega) hp; rw [he, Nm.less_irr] at this; cases this)
  clear S; intro h38 S
  refine k_pure (listed' := #[true, true, true, true, true, true, true, false, false, false, false, false, false, false, false, false, false]) 6 S rfl rfl rfl rfl (by kernel_rfl) rfl (fun _ d _ _ _ h => by cases d <;> exact h) (fun w => y_move S rfl) ?_; clear S a; intro a S
  refine k_pure (listed' := #[true, true, true, true, true, true, true, true, false, false, false, false, false, false, false, false, false]) 7 S rfl rfl rfl rfl (by kernel_rfl) rfl (fun _ d _ _ _ h => by cases d <;> exact h) (fun w => y_move S rfl) ?_; clear S a; intro a S
  refine k_pure (listed' := #[true, true, true, true, true, true, true, true, true, false, false, false, false, false, false, false, false]) 8 S rfl rfl rfl rfl (by kernel_rfl) rfl (fun _ d _ _ _ h => by cases d <;> exact h) (fun w => y_move S rfl) ?_; clear S a; intro a S
  refine k_read (listed' := #[true, true, true, true, true, true, true, true, true, true, false, false, false, false, false, false, false]) 9 S rfl rfl rfl rfl (by kernel_rfl) rfl (fun _ d _ _ _ h => by cases d <;> exact h) (fun w hW => have M := M.grow hW; y_indexR (e := 59) (sz := 10) S (by kernel_rfl) rfl ((M.rows hv).1) rfl (by first | omega | (simp; done) | (simp; omega))) ?_; clear S a; intro a S
  try simp only [Int.toNat_natCast, Nat.mul_one, Nat.zero_add] at S
  refine k_read (listed' := #[true, true, true, true, true, true, true, true, true, true, true, false, false, false, false, false, false]) 10 S rfl rfl rfl rfl (by kernel_rfl) rfl (fun _ d _ _ _ h => by cases d <;> exact h) (fun w hW => have M := M.grow hW; y_loadAgg S (by kernel_rfl) rfl rfl ((M.rows hv).1.at_.row (i := lo) (hrow (by omega)) rfl)) ?_; clear S a; intro a S
  refine k_read (listed' := #[true, true, true, true, true, true, true, true, true, true, true, false, true, false, false, false, false]) 12 S rfl rfl rfl rfl (by kernel_rfl) rfl (fun _ d _ _ _ h => by cases d <;> exact h) (fun w hW => have M := M.grow hW; y_loadAgg (cs := [_, _, _]) S (by kernel_rfl) rfl rfl (M.cellsAt (k := 3) 0 rfl rfl)) ?_; clear S a; intro a S
  refine k_one (listed' := #[true, true, true, true, true, true, true, true, true, true, true, true, true, false, false, false, false]) 11 rfl (by kernel_rfl) rfl ?_
  refine st_callB (xs := [(Operand.tmp 43)]) (fi := []) (ca := []) S (enters_of Try.func39 (by decide) rfl) rfl rfl (rfl) rfl (nameOf_any q.1 _ _) ?_
  rintro _ w6 ⟨rfl, hK⟩; refine ⟨_, rfl, ?_⟩; clear S a; intro a S; replace M := M.grow hK
  refine wpList_nil ?_; refine then_normal ?_; refine ⟨fun _ => hK, ?_⟩
  refine k_pure (listed' := #[true, true, true, true, true, true, true, true, true, true, true, true, true, true, false, false, false]) 13 S rfl rfl rfl rfl (by kernel_rfl) rfl (fun _ d _ _ _ h => by cases d <;> exact h) (fun w => y_eqlG (by kernel_rfl) S rfl rfl (fun w => equalNm 9998 q.1.name nm w)) ?_; clear S a; intro a S
  refine k_pure (listed' := #[true, true, true, true, true, true, true, true, true, true, true, true, true, true, true, false, false]) 14 S rfl rfl rfl rfl (by kernel_rfl) rfl (fun _ d _ _ _ h => by cases d <;> exact h) (fun w => y_pickT S rfl rfl) ?_; clear S a; intro a S
  refine k_pure (listed' := #[true, true, true, true, true, true, true, true, true, true, true, true, true, true, true, true, false]) 15 S rfl rfl rfl rfl (by kernel_rfl) rfl (fun _ d _ _ _ h => by cases d <;> exact h) (fun w => y_assign S rfl) ?_; clear S a; intro a S
  refine k_pure (listed' := #[true, true, true, true, true, true, true, true, true, true, true, true, true, true, true, true, true]) 16 S rfl rfl rfl rfl (by kernel_rfl) rfl (fun _ d _ _ _ h => by cases d <;> exact h) (fun w => y_assign S rfl) ?_; clear S a; intro a S
  refine k_end (by kernel_rfl) ?_
  replace S := S.sub [(0, _), (2, _), (4, _), (8, _), (9, _), (15, _), (6, _), (7, _)] rfl
  refine then_normal ?_
  refine wp_ret ?_
  refine end_two S rfl (res_tmp rfl) (res_tmp rfl) ?_
  first
    | (refine ⟨lo, _, rfl, M.below, hhl, ?_⟩
       cases hc : q.1.name.eqb nm
       · refine .inr ⟨rfl, fun i p hp => ?_⟩
         rcases Nat.lt_or_ge i lo with h | h
         · intro he; have := hlow i p h hp; rw [he, Nm.less_irr] at this; cases this
         · intro he
           rcases Nat.lt_or_ge lo i with h2 | h2
           · have h3 := hhigh lo q (Nat.le_refl _) (hq (by omega))
             have h4 := rises_less hr h2 (hq (by omega)) hp
             rw [he] at h4; rw [h3] at h4; cases h4
           · obtain rfl : i = lo := by omega
             rw [hq (by omega)] at hp; obtain rfl := Option.some.inj hp
             rw [Nm.eqb_iff.2 he] at hc; cases hc
       · exact .inl ⟨rfl, q, hq (by omega), Nm.eqb_iff.1 hc⟩)
    | (refine ⟨lo, false, rfl, M.below, hhl, .inr ⟨rfl, fun i p hp => ?_⟩⟩
       intro he; have := hlow i p (by have := (List.getElem?_eq_some_iff.1 hp).1; omega) hp; rw [he, Nm.less_irr] at this; cases this)

end Go.Proofs.Ytidpeojkkfmgeaa
