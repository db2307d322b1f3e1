/-
  Package coord: in, Kept, Tick.
-/
import Derived.Test.YtidpeojkkfmgeaaCh
namespace Go.Proofs.Ytidpeojkkfmgeaa
open Go.RowKit Go.Sort

theorem rises_one {ds : Dl} (h : risesB ds = true) {i j : Nat} {p q : Dr × List Wr} (hp : ds[i]? = some p) (hq : ds[j]? = some q) (he : p.1.name = q.1.name) : i = j := by
  rcases Nat.lt_trichotomy i j with h1 | h1 | h1
  · have := rises_less h h1 hp hq; rw [he, Nm.less_irr] at this; cases this
  · exact h1
  · have := rises_less h h1 hq hp; rw [he, Nm.less_irr] at this; cases this
/-- the name is driven, in this phase, at place k -/
def InP (ds : Dl) (nm : Nm) (ph : Int) (k : Nat) (q : Dr × List Wr) : Prop := ds[k]? = some q ∧ q.1.name = nm ∧ q.1.phase = ph
set_option maxHeartbeats 1000000 in
theorem in_any (va : Option Addr) (vc : Nat) (cs : List Value) (ds : Dl) (nm : Nm) (ph : Int) (w : World) (hv : RowC drS cs 0 w.heap.size w (.slice va ds.length vc) ds) (hb : ∀ q ∈ ds, q.1.shards ≤ 9223372036854775807) :
    Calls Try.prog 43 #[.agg #[.slice va ds.length vc], .agg nm.cells, .int .i8 ph] w fun e w' => ∃ (k : Nat) (er : Int), e = .returned (.tuple #[.int .i64 (k : Int), .int .i64 er]) ∧ Below w.heap.size w w' ∧
      ((er = 0 ∧ machB ds = true ∧ ∃ q, InP ds nm ph k q) ∨ (er ≠ 0 ∧ ¬ (machB ds = true ∧ ∃ k q, InP ds nm ph k q))) := by
  obtain ⟨E, hE, hE0⟩ := machE ds
  have M := Mem.start w
  refine calls_enter Try.func43 rfl 33 rfl rfl ?_; intro a S
  refine nxD ?_
  refine st_box S M rfl rfl rfl #[_] rfl ?_; clear S M a; intro a w1 bC S M hB
  refine st_box S M rfl rfl rfl #[_, _, _] rfl ?_; clear S M a; intro a w2 bX S M hB
  refine st_go [1, 1] S rfl (by kernel_rfl) ?_; clear S a; intro a S
  refine nxC ?_
  refine wp_seq ?_
  refine nxD ?_
  refine st_y S rfl rfl rfl (y_loadAgg (cs := [_]) S (by kernel_rfl) rfl rfl (M.cellsAt (k := 1) 1 rfl rfl)) ?_; clear S a; intro a S
  refine st_call (xs := [(Operand.tmp 10)]) S (enters_of Try.func7 (by decide) rfl) rfl rfl rfl (checkE_any va vc cs ds hE _ (M.rowsW hv) hb) ?_
  rintro _ w3 ⟨rfl, hK⟩; refine ⟨_, rfl, ?_⟩; clear S a; intro a S; replace M := M.grow hK
  refine st_go [1] S rfl (by kernel_rfl) ?_; clear S a; intro a S
  refine nxC ?_
  refine st_if (t := 12) S rfl ?_ ?_
  · clear S; intro h12 S
    refine st_condT S rfl ?_
    refine nxD ?_
    refine st_go [1, 1] S rfl (by kernel_rfl) ?_; clear S a; intro a S
    refine nxC ?_
    refine wp_ret ?_
    refine then_ret ?_
    refine end_two S rfl (res_tmp rfl) (res_tmp rfl) ?_
    refine ⟨0, 2, rfl, M.below, .inr ⟨by omega, ?_⟩⟩
    rintro ⟨g, -⟩; rcases hE0 with ⟨h, -⟩ | ⟨-, h⟩
    · omega
    · exact h g
  clear S; intro h12 S
  refine st_condF S rfl ?_
  refine wp_skip ?_
  refine then_normal ?_
  refine wp_seq ?_
  have hmac : machB ds = true := by
    rcases hE0 with ⟨-, h⟩ | ⟨h, -⟩
    · exact h
    · exfalso; omega
  obtain ⟨hl8, hdr, hri⟩ := machB_iff.1 hmac
  refine wp_region_lit ?_
  refine st_run [1, 2] S M rfl (by kernel_rfl) ?_; clear S a; intro a S
  refine st_y S rfl rfl rfl (y_loadAgg (cs := [_, _, _]) S (by kernel_rfl) rfl rfl (M.cellsAt (k := 3) 0 rfl rfl)) ?_; clear S a; intro a S
  refine st_call (xs := [(Operand.tmp 15), (Operand.tmp 16), (Operand.func 39)]) S (enters_of Try.func38 (by decide) rfl) rfl rfl rfl (find_any va vc cs ds nm _ (M.rowsW hv) hri (by omega)) ?_
  rintro _ w4 ⟨k, y, rfl, hK, hkl, hy⟩; refine ⟨_, rfl, ?_⟩; clear S a; intro a S; replace M := M.grow hK
  refine st_go [1, 1, 1, 1, 1] S rfl (by kernel_rfl) ?_; clear S a; intro a S
  refine nxC ?_
  refine wp_seq ?_
  refine wp_seq ?_
  obtain ⟨q, hq⟩ : ∃ q, y = true → ds[k]? = some q ∧ q.1.name = nm := by
    rcases hy with ⟨-, q, h1, h2⟩ | ⟨h, -⟩
    · exact ⟨q, fun _ => ⟨h1, h2⟩⟩
    · exact ⟨(zDr, []), fun h' => by rw [h] at h'; cases h'⟩
  obtain ⟨xa, xc, hrow⟩ : ∃ xa xc, y = true → (cs.drop (k * 10)).take 10 = (q.1.cells (.slice xa q.2.length xc)).toList := by
    cases hyy : y
    · exact ⟨none, 0, fun h => by cases h⟩
    · obtain ⟨xa, xc, e, -⟩ := hv.sl (hq hyy).1; exact ⟨xa, xc, fun _ => e⟩
  refine wp_region_lit ?_
  refine st_go [1, 1, 1] S rfl (by kernel_rfl) ?_; clear S a; intro a S
  refine st_split (t := 22) S rfl ?_ ?_
  · clear S; intro h22 S
    refine st_no S rfl rfl rfl ?_; clear S a; intro a S
    refine st_go [0, 0, 0, 0, 0, 0, 0, 1] S rfl (by kernel_rfl) ?_; clear S a; intro a S
    replace S := S.sub [(0, _), (1, _), (2, _), (3, _), (4, _), (6, _), (7, _), (12, _), (8, _), (9, _), (31, _)] rfl
    refine nxC ?_
    refine st_condT S rfl ?_
    refine nxD ?_
    refine st_go [1, 1] S rfl (by kernel_rfl) ?_; clear S a; intro a S
    refine nxC ?_
    refine wp_ret ?_
    refine then_ret ?_
    refine end_two S rfl (res_tmp rfl) (res_tmp rfl) ?_
    refine ⟨0, 110, rfl, M.below, .inr ⟨by omega, ?_⟩⟩
    rintro ⟨-, k', q', h1, h2, h3⟩
    first
      | (have hyf : y = false := by simpa using h22
         rcases hy with ⟨h, -⟩ | ⟨-, h⟩
         · rw [h] at hyf; cases hyf
         · exact h k' q' h1 h2)
      | (have hyt : y = true := by simpa using h22
         obtain ⟨g1, g2⟩ := hq hyt
         have := rises_one hri h1 g1 (h2.trans g2.symm)
         subst this
         rw [g1] at h1; obtain rfl := Option.some.inj h1
         omega)
  clear S; intro h22 S
  have hyt : y = true := by simpa using h22
  have hkl2 := (List.getElem?_eq_some_iff.1 (hq hyt).1).1
  refine st_y S rfl rfl rfl (y_fieldAddr (k := 0) S (by kernel_rfl) rfl) ?_; clear S a; intro a S
  refine st_run [2, 1] S M rfl (by kernel_rfl) ?_; clear S a; intro a S
  refine st_y S rfl rfl rfl (y_indexR (e := 59) (sz := 10) S (by kernel_rfl) rfl ((M.rows hv).1) rfl (by first | omega | (simp; done) | (simp; omega))) ?_; clear S a; intro a S
  try simp only [Int.toNat_natCast, Nat.mul_one, Nat.zero_add] at S
  refine st_go [4] S rfl (by kernel_rfl) ?_; clear S a; intro a S
  refine st_y S rfl rfl rfl (y_load S (by kernel_rfl) rfl ((M.rows hv).1.at_.row (i := k) (hrow hyt) rfl 3 (by show 3 < 10; omega))) ?_; clear S a; intro a S
  refine st_go [1, 1, 1] S rfl (by kernel_rfl) ?_; clear S a; intro a S
  replace S := S.sub [(0, _), (1, _), (2, _), (3, _), (4, _), (6, _), (7, _), (12, _), (8, _), (9, _), (31, _)] rfl
  refine nxC ?_
  refine st_fi (t := 31) S rfl ?_ ?_
  · clear S; intro h31 S
    refine st_condF S rfl ?_
    refine wp_skip ?_
    refine nxE ?_
    refine st_go [1, 1, 1] S rfl (by kernel_rfl) ?_; clear S a; intro a S
    refine nxC ?_
    refine wp_ret ?_
    refine end_two S rfl (res_tmp rfl) (res_tmp rfl) ?_
    have hyt : y = true := by simpa using h22
    refine ⟨k, 0, rfl, M.below, .inl ⟨rfl, hmac, q, (hq hyt).1, (hq hyt).2, by omega⟩⟩
  clear S; intro h31 S
  refine st_condT S rfl ?_
  refine nxD ?_
  refine st_go [1, 1] S rfl (by kernel_rfl) ?_; clear S a; intro a S
  refine nxC ?_
  refine wp_ret ?_
  refine then_ret ?_
  refine end_two S rfl (res_tmp rfl) (res_tmp rfl) ?_
  refine ⟨0, 110, rfl, M.below, .inr ⟨by omega, ?_⟩⟩
  rintro ⟨-, k', q', h1, h2, h3⟩
  first
    | (have hyf : y = false := by simpa using h22
       rcases hy with ⟨h, -⟩ | ⟨-, h⟩
       · rw [h] at hyf; cases hyf
       · exact h k' q' h1 h2)
    | (have hyt : y = true := by simpa using h22
       obtain ⟨g1, g2⟩ := hq hyt
       have := rises_one hri h1 g1 (h2.trans g2.symm)
       subst this
       rw [g1] at h1; obtain rfl := Option.some.inj h1
       omega)

/-- what a machine is behind a kept record, and what it says -/
def keptR (ds : Dl) (nm : Nm) (k : Nat) (q : Dr × List Wr) : Out := (ds.set k ({ q.1 with phase := 3 }, q.2), (bitsK q.1.shards 4).map (decM nm true), [], [(nm, true)])
set_option maxHeartbeats 2000000 in
theorem kept_any (va : Option Addr) (vc : Nat) (cs : List Value) (ds : Dl) (nm : Nm) (w : World) (hv : RowC drS cs 0 w.heap.size w (.slice va ds.length vc) ds) (hb : ∀ q ∈ ds, q.1.shards ≤ 9223372036854775807) :
    Calls Try.prog 16 #[.agg #[.slice va ds.length vc], .agg nm.cells, .bool true] w fun e w' => ∃ er r, ResP w e w' er r ∧ ((er = 0 ∧ machB ds = true ∧ ∃ k q, InP ds nm 2 k q ∧ r = keptR ds nm k q) ∨ (er ≠ 0 ∧ ¬ (machB ds = true ∧ ∃ k q, InP ds nm 2 k q))) := by
  have M := Mem.start w
  refine calls_enter Try.func16 rfl 77 rfl rfl ?_; intro a S
  refine nxD ?_
  refine st_box S M rfl rfl rfl #[_] rfl ?_; clear S M a; intro a w1 bC S M hB
  refine st_box S M rfl rfl rfl #[_, _, _] rfl ?_; clear S M a; intro a w2 bX S M hB
  refine st_alloc S M rfl rfl #[.slice none 0 0] (by kernel_rfl) ?_; clear S M a; intro a w3 bR S M hB
  refine st_alloc S M rfl rfl #[.slice none 0 0, .slice none 0 0, .slice none 0 0] (by kernel_rfl) ?_; clear S M a; intro a w4 bT S M hB
  refine st_go [1] S rfl (by kernel_rfl) ?_; clear S a; intro a S
  refine nxA ?_
  refine st_y S rfl rfl rfl (y_loadAgg (cs := [_]) S (by kernel_rfl) rfl rfl (M.cellsAt (k := 1) 3 rfl rfl)) ?_; clear S a; intro a S
  refine st_y S rfl rfl rfl (y_loadAgg (cs := [_, _, _]) S (by kernel_rfl) rfl rfl (M.cellsAt (k := 3) 2 rfl rfl)) ?_; clear S a; intro a S
  refine st_call (xs := [(Operand.tmp 14), (Operand.tmp 15), (Operand.const (Value.int IntKind.i8 2))]) S (enters_of Try.func43 (by decide) rfl) rfl rfl rfl (in_any va vc cs ds nm 2 _ (M.rowsW hv) hb) ?_
  rintro _ w5 ⟨k, er, rfl, hK, hin⟩; refine ⟨_, rfl, ?_⟩; clear S a; intro a S; replace M := M.grow hK
  refine st_go [1, 1, 1, 1, 1] S rfl (by kernel_rfl) ?_; clear S a; intro a S
  refine nxC ?_
  refine wp_seq ?_
  refine nxD ?_
  refine st_go [1, 1] S rfl (by kernel_rfl) ?_; clear S a; intro a S
  refine nxC ?_
  refine st_if (t := 20) S rfl ?_ ?_
  · clear S; intro h20 S
    refine st_condT S rfl ?_
    refine nxD ?_
    refine st_y S rfl rfl rfl (y_build (ps := []) (pl := [(0, 1)]) (z := [.slice none 0 0]) (cs := [_]) S (by kernel_rfl) rfl (rfl)) ?_; clear S a; intro a S
    refine st_y S rfl rfl rfl (y_build (ps := []) (pl := [(0, 1), (1, 1), (2, 1)]) (z := [.slice none 0 0, .slice none 0 0, .slice none 0 0]) (cs := [_, _, _]) S (by kernel_rfl) rfl (rfl)) ?_; clear S a; intro a S
    refine st_go [1] S rfl (by kernel_rfl) ?_; clear S a; intro a S
    refine st_store (sz := 1) (us := [_]) S M 1 rfl (by kernel_rfl) rfl rfl rfl rfl rfl rfl (by first | decide | (simp; done) | (simp; omega)) ?_; clear M; intro w6 M
    simp only [putL, List.set_cons_zero, List.set_cons_succ, Nat.reduceAdd] at M
    refine st_store (sz := 3) (us := [_, _, _]) S M 0 rfl (by kernel_rfl) rfl rfl rfl rfl rfl rfl (by first | decide | (simp; done) | (simp; omega)) ?_; clear M; intro w7 M
    simp only [putL, List.set_cons_zero, List.set_cons_succ, Nat.reduceAdd] at M
    refine st_go [1] S rfl (by kernel_rfl) ?_; clear S a; intro a S
    refine nxC ?_
    refine wp_ret ?_
    refine then_ret ?_
    refine end_three S rfl (res_agg (cs := [_]) (by kernel_rfl) rfl rfl (M.cellsAt (k := 1) 1 rfl rfl)) (res_agg (cs := [_, _, _]) (by kernel_rfl) rfl rfl (M.cellsAt (k := 3) 0 rfl rfl)) (res_tmp rfl) ?_
    refine ⟨er, _, res_nil M.below, .inr ?_⟩
    rcases hin with ⟨h, -⟩ | h
    · exfalso; omega
    · exact h
  clear S; intro h20 S
  refine st_condF S rfl ?_
  refine wp_skip ?_
  refine then_normal ?_
  refine wp_seq ?_
  obtain ⟨hmac, q, hq, hqn, hqp⟩ : machB ds = true ∧ ∃ q, InP ds nm 2 k q := by
    rcases hin with ⟨-, h⟩ | ⟨h, -⟩
    · exact h
    · exfalso; omega
  obtain ⟨hl8, hx8⟩ := mach_short hmac
  have hkl2 := (List.getElem?_eq_some_iff.1 hq).1
  refine wp_region_lit ?_
  refine st_y S rfl rfl rfl (y_loadAgg (cs := [_]) S (by kernel_rfl) rfl rfl (M.cellsAt (k := 1) 3 rfl rfl)) ?_; clear S a; intro a S
  refine st_call (xs := [(Operand.tmp 24)]) S (enters_of Try.func25 (by decide) rfl) rfl rfl rfl (begin_any va vc cs ds _ (M.rowsW hv) (by omega) hx8) ?_
  rintro _ w8 ⟨bB, es, rfl, W1⟩; refine ⟨_, rfl, ?_⟩; clear S a; intro a S; replace W1 := W1.beh M; clear M; have W2 := W1
  obtain ⟨la, ln, lc, llo, lhi, lcs, ma, mc, mlo, mhi, mcs, ka, kc, klo, khi, kcs, ea, ec, elo, ehi, ecs, hln, M, hD, hM, hK0, hEn⟩ := W2
  subst hln
  refine st_go [1] S rfl (by kernel_rfl) ?_; clear S a; intro a S
  refine nxC ?_
  refine wp_seq ?_
  refine nxD ?_
  refine st_go [1, 1] S rfl (by kernel_rfl) ?_; clear S a; intro a S
  refine nxC ?_
  refine st_if (t := 27) S rfl ?_ ?_
  · clear S; intro h27 S
    cases h27
  clear S; intro h27 S
  refine st_condF S rfl ?_
  refine wp_skip ?_
  refine then_normal ?_
  refine wp_seq ?_
  skip
  have hcl : lcs.length = ds.length * 10 := hD.1
  obtain ⟨dl, hrow0, hdw⟩ := hD.at hq
  obtain ⟨da, dc, rfl, -⟩ := hdw.form
  have hrow : (lcs.drop (k * 10)).take 10 = (q.1.cells (.slice da q.2.length dc)).toList := hrow0
  refine wp_region_lit ?_
  refine st_run [1, 1, 1, 1, 1, 1] S M rfl (by kernel_rfl) ?_; clear S a; intro a S
  refine st_y S rfl rfl rfl (y_indexR (e := 59) (sz := 10) S (by kernel_rfl) rfl (M.readRow 1 rfl (by unfold maxLen; omega)) rfl (by first | omega | (simp; done) | (simp; omega))) ?_; clear S a; intro a S
  try simp only [Int.toNat_natCast, Nat.mul_one, Nat.zero_add] at S
  refine st_go [1] S rfl (by kernel_rfl) ?_; clear S a; intro a S
  replace S := S.sub [(0, _), (1, _), (2, _), (3, _), (4, _), (6, _), (7, _), (8, _), (9, _), (10, _), (20, _), (11, _), (27, _), (12, _)] rfl
  refine nxA ?_
  refine st_go [1, 1, 4] S rfl (by kernel_rfl) ?_; clear S a; intro a S
  refine st_storeRow (v := .slice la ds.length lc) (sz := 10) (m := ds.length) (j := k * 10 + 3) (us := [.int .i8 3]) S M 1 rfl (by kernel_rfl) rfl rfl (by first | rfl | (simp only [Int.toNat_natCast]; omega)) rfl rfl rfl rfl rfl (by omega) hcl (by show k * 10 + 3 + 1 ≤ _; omega) ?_; clear M; intro wz lo9 hi9 M
  simp only [List.eraseIdx_cons_succ, List.eraseIdx_cons_zero] at M
  replace M := M.front 1 rfl
  simp only [List.eraseIdx_cons_succ, List.eraseIdx_cons_zero] at M
  have hD2 : BkG drS (putL lcs (k * 10 + 3) [.int .i8 3]) (ds.set k ({ q.1 with phase := 3 }, q.2)) es := by
    rw [put_cell (by omega) hrow (by omega)]; exact hD.set (q := (({ q.1 with phase := 3 } : Dr), q.2)) hkl2 hdw
  obtain ⟨dl5, hrow5, hdw5⟩ := hD2.at (List.getElem?_set_self hkl2)
  have hl5 : (ds.set k (({ q.1 with phase := 3 } : Dr), q.2)).length = ds.length := List.length_set
  refine nxC ?_
  refine wp_seq ?_
  refine wp_regionK [9, 13] #[false, false, false, false, false, false, false, false, false, false, false, false, false, false] rfl M (by kernel_rfl) ?_; clear M; intro w9 M
  refine k_pure (listed' := #[true, false, false, false, false, false, false, false, false, false, false, false, false, false]) 0 S rfl rfl rfl rfl (by kernel_rfl) rfl (fun _ d _ _ _ h => by cases d <;> exact h) (fun w => y_move S rfl) ?_; clear S a; intro a S
  refine k_pure (listed' := #[true, true, false, false, false, false, false, false, false, false, false, false, false, false]) 1 S rfl rfl rfl rfl (by kernel_rfl) rfl (fun _ d _ _ _ h => by cases d <;> exact h) (fun w => y_move S rfl) ?_; clear S a; intro a S
  refine k_pure (listed' := #[true, true, true, false, false, false, false, false, false, false, false, false, false, false]) 2 S rfl rfl rfl rfl (by kernel_rfl) rfl (fun _ d _ _ _ h => by cases d <;> exact h) (fun w => y_nilCheck S rfl) ?_; clear S a; intro a S
  refine k_pure (listed' := #[true, true, true, true, false, false, false, false, false, false, false, false, false, false]) 3 S rfl rfl rfl rfl (by kernel_rfl) rfl (fun _ d _ _ _ h => by cases d <;> exact h) (fun w => y_fieldAddr (k := 1) S (by kernel_rfl) rfl) ?_; clear S a; intro a S
  refine k_pure (listed' := #[true, true, true, true, true, false, false, false, false, false, false, false, false, false]) 4 S rfl rfl rfl rfl (by kernel_rfl) rfl (fun _ d _ _ _ h => by cases d <;> exact h) (fun w => y_fieldAddr (k := 2) S (by kernel_rfl) rfl) ?_; clear S a; intro a S
  refine k_read (listed' := #[true, true, true, true, true, true, false, false, false, false, false, false, false, false]) 5 S rfl rfl rfl rfl (by kernel_rfl) rfl (fun _ d _ _ _ h => by cases d <;> exact h) (fun w hW => have M := M.grow hW; y_load S (by kernel_rfl) rfl (M.cell 0 rfl rfl)) ?_; clear S a; intro a S
  refine k_read (listed' := #[true, true, true, true, true, true, true, false, false, false, false, false, false, false]) 6 S rfl rfl rfl rfl (by kernel_rfl) rfl (fun _ d _ _ _ h => by cases d <;> exact h) (fun w hW => have M := M.grow hW; y_loadAgg (cs := [_, _, _]) S (by kernel_rfl) rfl rfl (M.cellsAt (k := 3) 7 rfl rfl)) ?_; clear S a; intro a S
  refine k_pure (listed' := #[true, true, true, true, true, true, true, true, false, false, false, false, false, false]) 7 S rfl rfl rfl rfl (by kernel_rfl) rfl (fun _ d _ _ _ h => by cases d <;> exact h) (fun w => y_build (ps := [(0, (Operand.tmp 55)), (1, (Operand.const (Value.bool true)))]) (pl := [(0, 3), (3, 1)]) (z := [.int .i64 0, .int .i64 0, .int .i64 0, .bool false]) (cs := [_, _, _, _]) S (by kernel_rfl) rfl (rfl)) ?_; clear S a; intro a S
  refine k_one (listed' := #[true, true, true, true, true, true, true, true, true, false, false, false, false, false]) 8 rfl (by kernel_rfl) rfl ?_
  refine st_lit (ps := [(0, (Operand.tmp 56))]) (e := 66) (sz := 4) (zl := [.int .i64 0, .int .i64 0, .int .i64 0, .bool false]) (cs := [_, _, _, _]) S M rfl rfl (by kernel_rfl) rfl (rfl) ?_; clear S M a; intro a w10 bZ S M hB
  refine wpList_nil ?_; refine then_normal ?_; refine ⟨fun _ => hB, ?_⟩
  refine k_one (listed' := #[true, true, true, true, true, true, true, true, true, true, false, false, false, false]) 9 rfl (by kernel_rfl) rfl ?_
  refine st_append (e := 66) (sz := 4) (by_ := 32) (zc := [.int .i64 0, .int .i64 0, .int .i64 0, .bool false]) S M 5 rfl rfl (by kernel_rfl) rfl (by decide) rfl rfl rfl (show Rd _ _ _ 4 _ 1 [.int .i64 nm.stamp, .int .i64 nm.inc, .int .i64 nm.try_, .bool true] from M.sliceAt 0 rfl (M.cellsAt (k := 4) 0 rfl rfl) rfl (Nat.le_refl _) (by unfold maxLen; omega)) (rfl) (by first | omega | (simp; done) | (simp; omega)) (by unfold maxLen; first | omega | (simp; done) | (simp; omega)) ?_; clear S M a; intro a w11 vA loA hiA S M
  refine wpList_nil ?_; refine then_normal ?_; refine ⟨fun h => absurd h (by decide), ?_⟩
  refine k_pure (listed' := #[true, true, true, true, true, true, true, true, true, true, true, false, false, false]) 10 S rfl rfl rfl rfl (by kernel_rfl) rfl (fun _ d _ _ _ h => by cases d <;> exact h) (fun w => y_nilCheck S rfl) ?_; clear S a; intro a S
  refine k_pure (listed' := #[true, true, true, true, true, true, true, true, true, true, true, true, false, false]) 11 S rfl rfl rfl rfl (by kernel_rfl) rfl (fun _ d _ _ _ h => by cases d <;> exact h) (fun w => y_fieldAddr (k := 1) S (by kernel_rfl) rfl) ?_; clear S a; intro a S
  refine k_pure (listed' := #[true, true, true, true, true, true, true, true, true, true, true, true, true, false]) 12 S rfl rfl rfl rfl (by kernel_rfl) rfl (fun _ d _ _ _ h => by cases d <;> exact h) (fun w => y_fieldAddr (k := 2) S (by kernel_rfl) rfl) ?_; clear S a; intro a S
  refine k_one (listed' := #[true, true, true, true, true, true, true, true, true, true, true, true, true, true]) 13 rfl (by kernel_rfl) rfl ?_
  obtain ⟨aA, cA, rfl, -, -⟩ := (M.readAll 0 rfl (by unfold maxLen; simp)).form
  refine st_store (sz := 1) (us := [_]) S M 2 rfl (by kernel_rfl) rfl rfl rfl rfl rfl rfl (by first | decide | (simp; done) | (simp; omega)) ?_; clear M; intro w12 M
  simp only [putL, List.set_cons_zero, List.set_cons_succ, Nat.reduceAdd] at M
  refine wpList_nil ?_; refine then_normal ?_; refine ⟨fun h => absurd h (by decide), ?_⟩
  refine k_end (by kernel_rfl) ?_
  replace S := S.sub [(0, _), (1, _), (2, _), (3, _), (4, _), (6, _), (7, _), (8, _), (9, _), (10, _), (20, _), (11, _), (27, _), (12, _)] rfl
  refine then_normal ?_
  refine wp_seq ?_
  replace M := M.drop 1
  simp only [List.eraseIdx_cons_succ, List.eraseIdx_cons_zero] at M
  replace M := M.front 4 rfl
  simp only [List.eraseIdx_cons_succ, List.eraseIdx_cons_zero] at M
  replace M := M.front 4 rfl
  simp only [List.eraseIdx_cons_succ, List.eraseIdx_cons_zero] at M
  replace M := M.front 4 rfl
  simp only [List.eraseIdx_cons_succ, List.eraseIdx_cons_zero] at M
  replace M := M.front 4 rfl
  simp only [List.eraseIdx_cons_succ, List.eraseIdx_cons_zero] at M
  have hE' := hEn.more (q := (nm, true)) (lv := .slice none 0 0) (.inl ⟨rfl, rfl⟩)
  refine wp_regionK [6] #[false, false, false, false, false, false, false] rfl M (by kernel_rfl) ?_; clear M; intro w13 M
  refine k_pure (listed' := #[true, false, false, false, false, false, false]) 0 S rfl rfl rfl rfl (by kernel_rfl) rfl (fun _ d _ _ _ h => by cases d <;> exact h) (fun w => y_move S rfl) ?_; clear S a; intro a S
  refine k_read (listed' := #[true, true, false, false, false, false, false]) 1 S rfl rfl rfl rfl (by kernel_rfl) rfl (fun _ d _ _ _ h => by cases d <;> exact h) (fun w hW => have M := M.grow hW; y_loadAgg (cs := [_, _, _]) S (by kernel_rfl) rfl rfl (M.cellsAt (k := 3) 7 rfl rfl)) ?_; clear S a; intro a S
  refine k_pure (listed' := #[true, true, true, false, false, false, false]) 2 S rfl rfl rfl rfl (by kernel_rfl) rfl (fun _ d _ _ _ h => by cases d <;> exact h) (fun w => y_move S rfl) ?_; clear S a; intro a S
  refine k_pure (listed' := #[true, true, true, true, false, false, false]) 3 S rfl rfl rfl rfl (by kernel_rfl) rfl (fun _ d _ _ _ h => by cases d <;> exact h) (fun w => y_nilCheck S rfl) ?_; clear S a; intro a S
  refine k_pure (listed' := #[true, true, true, true, true, false, false]) 4 S rfl rfl rfl rfl (by kernel_rfl) rfl (fun _ d _ _ _ h => by cases d <;> exact h) (fun w => y_fieldAddr (k := 4) S (by kernel_rfl) rfl) ?_; clear S a; intro a S
  refine k_read (listed' := #[true, true, true, true, true, true, false]) 5 S rfl rfl rfl rfl (by kernel_rfl) rfl (fun _ d _ _ _ h => by cases d <;> exact h) (fun w hW => have M := M.grow hW; y_load S (by kernel_rfl) rfl ((M.readRow 1 rfl (by unfold maxLen; omega)).at_.row (i := k) hrow5 rfl 4 (by show 4 < 10; omega))) ?_; clear S a; intro a S
  refine k_one (listed' := #[true, true, true, true, true, true, true]) 6 rfl (by kernel_rfl) rfl ?_
  have W3 : MacE w w13 _ bB (ds.set k ({ q.1 with phase := 3 }, q.2)) [] [] [(nm, true)] es := ⟨la, ds.length, lc, lo9, hi9, _, ma, mc, mlo, mhi, mcs, ka, kc, klo, khi, kcs, aA, cA, loA, hiA, _, hl5.symm, by rw [hl5]; exact M, hD2, hM, hK0, hE'⟩
  refine st_call (xs := [(Operand.tmp 62), (Operand.tmp 63), (Operand.tmp 67), (Operand.const (Value.bool true))]) S (enters_of Try.func45 (by decide) rfl) rfl rfl rfl (decides_any W3 nm q.1.shards true (by simp)) ?_
  rintro _ w14 ⟨rfl, W4⟩; refine ⟨_, rfl, ?_⟩; clear S a M hD hM hK0 hEn; intro a S
  refine wpList_nil ?_; refine then_normal ?_; refine ⟨fun h => absurd h (by decide), ?_⟩
  refine k_end (by kernel_rfl) ?_
  refine then_normal ?_
  refine wp_seq ?_
  clear hD2 hE'
  obtain ⟨la, ln, lc, llo, lhi, lcs, ma, mc, mlo, mhi, mcs, ka, kc, klo, khi, kcs, ea, ec, elo, ehi, ecs, hln, M, hD, hM, hK0, hEn⟩ := W4
  subst hln
  refine wp_regionKC (C := fun W => Blk W bB #[.slice la (ds.set k ({ q.1 with phase := 3 }, q.2)).length lc, .slice ma ([] ++ (bitsK q.1.shards 4).map (decM nm true)).length mc, .slice ka ([] : Kl).length kc, .slice ea [(nm, true)].length ec] 71) [8, 9] #[false, false, false, false, false, false, false, false, false, false, false] rfl M (by kernel_rfl) ?_; clear M; intro w15 M; have hC := M.blk 0 rfl
  refine kc_readC (listed' := #[true, false, false, false, false, false, false, false, false, false, false]) 0 S rfl rfl rfl rfl (by kernel_rfl) rfl (fun _ d _ _ _ h => by cases d <;> exact h) hC (fun w _ => y_move S rfl) ?_; clear S a; intro a S
  refine kc_readC (listed' := #[true, true, false, false, false, false, false, false, false, false, false]) 1 S rfl rfl rfl rfl (by kernel_rfl) rfl (fun _ d _ _ _ h => by cases d <;> exact h) hC (fun w _ => y_nilCheck S rfl) ?_; clear S a; intro a S
  refine kc_readC (listed' := #[true, true, true, false, false, false, false, false, false, false, false]) 2 S rfl rfl rfl rfl (by kernel_rfl) rfl (fun _ d _ _ _ h => by cases d <;> exact h) hC (fun w _ => y_fieldAddr (k := 0) S (by kernel_rfl) rfl) ?_; clear S a; intro a S
  refine kc_readC (listed' := #[true, true, true, true, false, false, false, false, false, false, false]) 3 S rfl rfl rfl rfl (by kernel_rfl) rfl (fun _ d _ _ _ h => by cases d <;> exact h) hC (fun w hC => y_loadAgg (cs := [_]) S (by kernel_rfl) rfl rfl (Blk.cellsAt (o := 0) (k := 1) hC rfl)) ?_; clear S a; intro a S
  refine kc_readC (listed' := #[true, true, true, true, true, false, false, false, false, false, false]) 4 S rfl rfl rfl rfl (by kernel_rfl) rfl (fun _ d _ _ _ h => by cases d <;> exact h) hC (fun w _ => y_move S rfl) ?_; clear S a; intro a S
  refine kc_readC (listed' := #[true, true, true, true, true, true, false, false, false, false, false]) 5 S rfl rfl rfl rfl (by kernel_rfl) rfl (fun _ d _ _ _ h => by cases d <;> exact h) hC (fun w _ => y_nilCheck S rfl) ?_; clear S a; intro a S
  refine kc_readC (listed' := #[true, true, true, true, true, true, true, false, false, false, false]) 6 S rfl rfl rfl rfl (by kernel_rfl) rfl (fun _ d _ _ _ h => by cases d <;> exact h) hC (fun w _ => y_fieldAddr (k := 1) S (by kernel_rfl) rfl) ?_; clear S a; intro a S
  refine kc_readC (listed' := #[true, true, true, true, true, true, true, true, false, false, false]) 7 S rfl rfl rfl rfl (by kernel_rfl) rfl (fun _ d _ _ _ h => by cases d <;> exact h) hC (fun w hC => y_loadAgg (cs := [_, _, _]) S (by kernel_rfl) rfl rfl (Blk.cellsAt (o := 1) (k := 3) hC rfl)) ?_; clear S a; intro a S
  refine kc_one (listed' := #[true, true, true, true, true, true, true, true, true, false, false]) 8 rfl (by kernel_rfl) rfl ?_
  refine st_store (sz := 1) (us := [_]) S M 6 rfl (by kernel_rfl) rfl rfl rfl rfl rfl rfl (by first | decide | (simp; done) | (simp; omega)) ?_; clear M; intro w16 M
  simp only [putL, List.set_cons_zero, List.set_cons_succ, Nat.reduceAdd] at M
  replace hC := M.blk 0 rfl
  refine wpList_nil ?_; refine then_normal ?_; refine ⟨fun h => absurd h (by decide), hC, ?_⟩
  refine kc_one (listed' := #[true, true, true, true, true, true, true, true, true, true, false]) 9 rfl (by kernel_rfl) rfl ?_
  refine st_store (sz := 3) (us := [_, _, _]) S M 5 rfl (by kernel_rfl) rfl rfl rfl rfl rfl rfl (by first | decide | (simp; done) | (simp; omega)) ?_; clear M; intro w17 M
  simp only [putL, List.set_cons_zero, List.set_cons_succ, Nat.reduceAdd] at M
  replace hC := M.blk 0 rfl
  refine wpList_nil ?_; refine then_normal ?_; refine ⟨fun h => absurd h (by decide), hC, ?_⟩
  refine kc_readC (listed' := #[true, true, true, true, true, true, true, true, true, true, true]) 10 S rfl rfl rfl rfl (by kernel_rfl) rfl (fun _ d _ _ _ h => by cases d <;> exact h) hC (fun w _ => y_assign S rfl) ?_; clear S a; intro a S
  refine kc_end (by kernel_rfl) ?_
  replace S := S.sub [(0, _), (1, _), (2, _), (3, _), (4, _), (6, _), (7, _), (9, _), (10, _), (20, _), (11, _), (27, _), (12, _), (8, _)] rfl
  refine then_normal ?_
  refine wp_ret ?_
  refine end_three S rfl (res_agg (cs := [_]) (by kernel_rfl) rfl rfl (M.cellsAt (k := 1) 6 rfl rfl)) (res_agg (cs := [_, _, _]) (by kernel_rfl) rfl rfl (M.cellsAt (k := 3) 5 rfl rfl)) (res_tmp rfl) ?_
  have hb4 := bits_small q.1.shards
  exact ⟨0, keptR ds nm k q, ⟨_, _, _, _, rfl, M.below, out_of M (List.mem_of_getElem? (show _[1]? = _ from rfl)) (List.mem_of_getElem? (show _[2]? = _ from rfl)) (List.mem_of_getElem? (show _[3]? = _ from rfl)) (List.mem_of_getElem? (show _[4]? = _ from rfl)) (fun e he => by simp [he]) hD hM hK0 hEn (by rw [hl5]; unfold maxLen; omega) (by rw [List.length_map]; unfold maxLen; omega) (by unfold maxLen; simp) (by unfold maxLen; simp)⟩, .inl ⟨rfl, hmac, k, q, ⟨hq, hqn, hqp⟩, rfl⟩⟩

end Go.Proofs.Ytidpeojkkfmgeaa
