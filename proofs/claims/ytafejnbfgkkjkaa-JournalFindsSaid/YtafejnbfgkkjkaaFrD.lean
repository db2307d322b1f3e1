/-
  Package frame: Join.
-/
import Derived.Test.YtafejnbfgkkjkaaFrC
import Derived.Test.YtafejnbfgkkjkaaGX
namespace Go.Proofs.Ytafejnbfgkkjkaa
open Go.RowKit Go.Sort

def outF (fs : List (Fr × List UInt8)) : List UInt8 := fs.flatMap (·.2)
def joinOk (fs : List (Fr × List UInt8)) : Prop :=
  ∃ f bs r, fs = (f, bs) :: r ∧ fs.length ≤ 2 ∧ (∀ x ∈ fs, x.1.may x.2.length = true) ∧ cutOk (outF fs) f.seq f.inc ∧ cutF (outF fs) f.seq f.inc = fs
open Classical in
noncomputable def joinE (fs : List (Fr × List UInt8)) : Int := if joinOk fs then 0 else 40

def JoinPost (fs : List (Fr × List UInt8)) (w : World) (e : Ending) (w' : World) : Prop :=
  ∃ v', e = .returned (.tuple #[v', .int .i64 (joinE fs)]) ∧ Below w.heap.size w w' ∧ (joinOk fs → Fresh w w' 5 1 v' (outF fs).length (bcells (outF fs))) ∧ (¬ joinOk fs → v' = .slice none 0 0)
theorem joinPost_no {fs : List (Fr × List UInt8)} {w w' : World} {H : List Ent} (M : Mem w w' H) (h : ¬ joinOk fs) : JoinPost fs w (.returned (.tuple #[.slice none 0 0, .int .i64 40])) w' :=
  ⟨_, by unfold joinE; rw [if_neg h], M.below, fun h' => absurd h' h, fun _ => rfl⟩

theorem outF_succ {fs : List (Fr × List UInt8)} {k : Nat} {f : Fr} {bs : List UInt8} (h : fs[k]? = some (f, bs)) : outF (fs.take (k + 1)) = outF (fs.take k) ++ bs := by
  obtain ⟨hlt, he⟩ := List.getElem?_eq_some_iff.1 h
  rw [List.take_succ_eq_append_getElem hlt, outF, List.flatMap_append, he]
  simp [outF]
theorem outF_le : ∀ (fs : List (Fr × List UInt8)) (k : Nat), (∀ x ∈ fs, x.2.length ≤ 1000) → k ≤ fs.length → (outF (fs.take k)).length ≤ k * 1000
  | fs, 0, _, _ => by simp [outF]
  | fs, k + 1, h, hk => by
    have hlt : k < fs.length := by omega
    have h1 := outF_le fs k h (by omega)
    have h2 := h fs[k] (List.getElem_mem hlt)
    rw [outF_succ (f := fs[k].1) (bs := fs[k].2) (List.getElem?_eq_getElem hlt), List.length_append]
    omega

theorem join_any (v : Value) (cs : List Value) (fs : List (Fr × List UInt8)) (w : World) (hv : FrsC cs 0 w.heap.size w v fs) (hbig : ∀ x ∈ fs, x.2.length ≤ 1000) (hseq : ∀ x ∈ fs, -9223372036854775808 ≤ x.1.seq ∧ x.1.seq ≤ 9223372036854775807) : Calls Try.prog 52 #[v] w (JoinPost fs w) := by
  have M := Mem.start w
  have hl := hv.1.2.1
  unfold maxLen at hl
  refine calls_enter Try.func52 rfl 71 rfl rfl ?_; intro a S
  refine nxD ?_
  refine st_go [1, 1] S rfl (by kernel_rfl) ?_; clear S a; intro a S
  refine nxC ?_
  refine wp_seq ?_
  refine nxD ?_
  refine st_go [1] S rfl (by kernel_rfl) ?_; clear S a; intro a S
  refine st_y S rfl rfl rfl (y_lenR (E := 59) S rfl ((M.frs hv).1) (by kernel_rfl)) ?_; clear S a; intro a S
  refine st_go [1, 1] S rfl (by kernel_rfl) ?_; clear S a; intro a S
  refine st_if (t := 14) S rfl ?_ ?_
  · clear S; intro h14 S
    refine st_go [0, 0, 0, 1] S rfl (by kernel_rfl) ?_; clear S a; intro a S
    refine nxC ?_
    refine st_condT S rfl ?_
    refine nxD ?_
    refine st_go [1, 1] S rfl (by kernel_rfl) ?_; clear S a; intro a S
    refine nxC ?_
    refine wp_ret ?_
    refine then_ret ?_
    refine end_two S rfl (res_tmp rfl) (res_tmp rfl) ?_
    exact joinPost_no M (by rintro ⟨f, bs, r, rfl, h2, _⟩; simp at *; omega)
  clear S; intro h14 S
  refine st_go [1] S rfl (by kernel_rfl) ?_; clear S a; intro a S
  refine st_y S rfl rfl rfl (y_lenR (E := 59) S rfl ((M.frs hv).1) (by kernel_rfl)) ?_; clear S a; intro a S
  refine st_go [1, 1] S rfl (by kernel_rfl) ?_; clear S a; intro a S
  refine nxC ?_
  refine st_if (t := 18) S rfl ?_ ?_
  · clear S; intro h18 S
    refine st_condT S rfl ?_
    refine nxD ?_
    refine st_go [1, 1] S rfl (by kernel_rfl) ?_; clear S a; intro a S
    refine nxC ?_
    refine wp_ret ?_
    refine then_ret ?_
    refine end_two S rfl (res_tmp rfl) (res_tmp rfl) ?_
    exact joinPost_no M (by rintro ⟨f, bs, r, rfl, h2, _⟩; simp at *; omega)
  clear S; intro h18 S
  refine st_condF S rfl ?_
  refine wp_skip ?_
  refine nxE ?_
  refine st_go [1] S rfl (by kernel_rfl) ?_; clear S a; intro a S
  refine nxC ?_
  refine wp_seq ?_
  refine nxD ?_
  refine st_go [1] S rfl (by kernel_rfl) ?_; clear S a; intro a S
  refine st_y S rfl rfl rfl (y_lenR (E := 59) S rfl ((M.frs hv).1) (by kernel_rfl)) ?_; clear S a; intro a S
  refine st_go [1] S rfl (by kernel_rfl) ?_; clear S a; intro a S
  refine nxC ?_
  refine wp_block ?_
  refine wp_loop_g (fun m a w' => ∃ (k lo hi : Nat) (v' : Value), k ≤ fs.length ∧ m = fs.length - k ∧ Sees 71 a [(0, v), (4, v'), (19, v), (20, .int .i64 (fs.length : Nat)), (21, .int .i64 (k : Int))] ∧ Mem w w' [rowE lo hi 5 1 v' (outF (fs.take k)).length (bcells (outF (fs.take k)))] ∧ ∀ x ∈ fs.take k, x.1.may x.2.length = true) (fs.length) ?_ ?_
  · skip
    exact ⟨0, _, _, _, Nat.zero_le _, rfl, S.sub _ rfl, M.rowNil _ _, by simp⟩
  clear S M a; intro m a wl
  rintro ⟨k, lo, hi, v', hk, rfl, S, M, hmay⟩
  refine nxD ?_
  refine st_go [1] S rfl (by kernel_rfl) ?_; clear S a; intro a S
  refine nxC ?_
  refine wp_seq ?_
  refine st_if (t := 22) S rfl ?_ ?_
  · clear S; intro h22 S
    refine st_condT S rfl ?_
    refine wp_skip ?_
    refine then_normal ?_
    refine wp_seq ?_
    refine wp_block ?_
    refine nxD ?_
    have hk' : k < fs.length := by omega
    obtain ⟨⟨f, bs⟩, hx⟩ : ∃ x, fs[k]? = some x := ⟨fs[k], List.getElem?_eq_getElem hk'⟩
    obtain ⟨lv, hrow, hlv⟩ := hv.2 k f bs hx
    obtain ⟨ad, cap, hlvE, -, -⟩ := hlv.form
    subst hlvE
    refine st_y S rfl rfl rfl (y_indexR (e := 59) (sz := 6) S (by kernel_rfl) rfl ((M.frs hv).1) rfl (by first | omega | (simp; done) | (simp; omega))) ?_; clear S a; intro a S
    try simp only [Int.toNat_natCast, Nat.mul_one, Nat.zero_add] at S
    refine st_y S rfl rfl rfl (y_loadAgg S (by kernel_rfl) rfl rfl (((M.frs hv).row hx hrow).1)) ?_; clear S a; intro a S
    refine st_alloc S M rfl rfl #[.int .i64 0, .int .i64 0, .int .i64 0, .int .i64 0, .int .u32 0, .slice none 0 0] (by kernel_rfl) ?_; clear S M a; intro a w1 b1 S M hB
    refine st_store (sz := 6) (us := [_, _, _, _, _, _]) S M 0 rfl (by kernel_rfl) rfl rfl rfl rfl rfl rfl (by first | decide | (simp; done) | (simp; omega)) ?_; clear M; intro w2 M
    simp only [putL, List.set_cons_zero, List.set_cons_succ, Nat.reduceAdd] at M
    refine nxC ?_
    refine wp_seq ?_
    refine nxD ?_
    refine st_y S rfl rfl rfl (y_loadAgg (cs := [_, _, _, _, _, _]) S (by kernel_rfl) rfl rfl (M.cellsAt (k := 6) 0 rfl rfl)) ?_; clear S a; intro a S
    refine st_call (xs := [(Operand.tmp 25)]) S (enters_of Try.func49 (by decide) rfl) rfl rfl rfl (mayF_any f ad bs.length cap _) ?_
    rintro _ w3 ⟨rfl, hK⟩; refine ⟨_, rfl, ?_⟩; clear S a; intro a S; replace M := M.grow hK
    refine st_go [1] S rfl (by kernel_rfl) ?_; clear S a; intro a S
    refine nxC ?_
    refine st_split (t := 27) S rfl ?_ ?_
    · clear S; intro h27 S
      refine st_condT S rfl ?_
      refine nxD ?_
      refine st_go [1, 1] S rfl (by kernel_rfl) ?_; clear S a; intro a S
      refine nxC ?_
      refine wp_ret ?_
      refine then_ret ?_
      refine block_ret ?_
      refine then_ret ?_
      refine then_ret ?_
      refine block_ret ?_
      refine then_ret ?_
      refine end_two S rfl (res_tmp rfl) (res_tmp rfl) ?_
      exact joinPost_no M (by
        rintro ⟨f', bs', r, e, h2, h3, _⟩
        have := h3 (f, bs) (List.mem_of_getElem? hx)
        simp only [this] at h27
        simp at h27)
    clear S; intro h27 S
    refine st_condF S rfl ?_
    refine wp_skip ?_
    refine nxF ?_
    refine st_run [1, 6, 1] S M rfl (by kernel_rfl) ?_; clear S a; intro a S
    have hob := outF_le fs k hbig hk
    have hbs : bs.length ≤ 1000 := hbig _ (List.mem_of_getElem? hx)
    refine st_append (e := 5) (sz := 1) (by_ := 1) (zc := [.int .u8 0]) S M 1 rfl rfl (by kernel_rfl) rfl (by decide) rfl rfl rfl (((M.frs hv).row hx hrow).2) (allOne_bcells _) (by omega) (by unfold maxLen; omega) ?_; clear S M a; intro a w4 vA loA hiA S M
    refine st_go [1] S rfl (by kernel_rfl) ?_; clear S a; intro a S
    refine wpList_nil ?_
    refine block_normal ?_
    refine nxF ?_
    (first | refine st_y S rfl rfl rfl (y_addN S rfl rfl (by omega)) ?_ | refine st_y S rfl rfl rfl (y_int S rfl rfl rfl) ?_); clear S a; intro a S
    refine st_go [1] S rfl (by kernel_rfl) ?_; clear S a; intro a S
    refine nxC ?_
    refine ⟨fs.length - (k + 1), by omega, k + 1, loA, hiA, vA, by omega, rfl, S.sub _ rfl, ?_, ?_⟩
    · have M' := M.drop 1
      rw [outF_succ hx, List.length_append, bcells_append]
      exact M'
    · intro x hx'
      rw [List.take_succ_eq_append_getElem hk', List.mem_append] at hx'
      rcases hx' with h | h
      · exact hmay x h
      · simp only [List.mem_singleton] at h
        rw [List.getElem?_eq_getElem hk'] at hx
        rw [h, Option.some.inj hx]
        simpa using h27
  clear S; intro h22 S
  refine st_condF S rfl ?_
  refine wp_exit ?_
  refine then_exit ?_
  refine then_exit ?_
  refine block_hit ?_
  refine then_normal ?_
  refine wp_seq ?_
  obtain rfl : k = fs.length := by omega
  rw [List.take_length] at M hmay
  obtain ⟨⟨f0, bs0⟩, hx0⟩ : ∃ x, fs[0]? = some x := ⟨fs[0], List.getElem?_eq_getElem (by omega)⟩
  obtain ⟨lv0, hrow0, hlv0⟩ := hv.2 0 f0 bs0 hx0
  have hob := outF_le fs fs.length hbig (Nat.le_refl _)
  rw [List.take_length] at hob
  refine wp_regionK [] #[false, false, false, false, false, false, false, false, false, false, false, false, false, false, false] rfl M (by kernel_rfl) ?_; clear M; intro w5 M
  refine k_pure (listed' := #[true, false, false, false, false, false, false, false, false, false, false, false, false, false, false]) 0 S rfl rfl rfl rfl (by kernel_rfl) rfl (fun _ d _ _ _ h => by cases d <;> exact h) (fun w => y_move S rfl) ?_; clear S a; intro a S
  refine k_pure (listed' := #[true, true, false, false, false, false, false, false, false, false, false, false, false, false, false]) 1 S rfl rfl rfl rfl (by kernel_rfl) rfl (fun _ d _ _ _ h => by cases d <;> exact h) (fun w => y_move S rfl) ?_; clear S a; intro a S
  refine k_read (listed' := #[true, true, true, false, false, false, false, false, false, false, false, false, false, false, false]) 2 S rfl rfl rfl rfl (by kernel_rfl) rfl (fun _ d _ _ _ h => by cases d <;> exact h) (fun w hW => have M := M.grow hW; y_indexR (e := 59) (sz := 6) S (by kernel_rfl) rfl ((M.frs hv).1) rfl (by first | omega | (simp; done) | (simp; omega))) ?_; clear S a; intro a S
  refine k_pure (listed' := #[true, true, true, true, false, false, false, false, false, false, false, false, false, false, false]) 3 S rfl rfl rfl rfl (by kernel_rfl) rfl (fun _ d _ _ _ h => by cases d <;> exact h) (fun w => y_fieldAddr (k := 0) S (by kernel_rfl) rfl) ?_; clear S a; intro a S
  refine k_read (listed' := #[true, true, true, true, true, false, false, false, false, false, false, false, false, false, false]) 4 S rfl rfl rfl rfl (by kernel_rfl) rfl (fun _ d _ _ _ h => by cases d <;> exact h) (fun w hW => have M := M.grow hW; y_load S (by kernel_rfl) rfl (((M.frs hv).row hx0 hrow0).1.one 0 rfl)) ?_; clear S a; intro a S
  refine k_pure (listed' := #[true, true, true, true, true, true, false, false, false, false, false, false, false, false, false]) 5 S rfl rfl rfl rfl (by kernel_rfl) rfl (fun _ d _ _ _ h => by cases d <;> exact h) (fun w => y_move S rfl) ?_; clear S a; intro a S
  refine k_read (listed' := #[true, true, true, true, true, true, true, false, false, false, false, false, false, false, false]) 6 S rfl rfl rfl rfl (by kernel_rfl) rfl (fun _ d _ _ _ h => by cases d <;> exact h) (fun w hW => have M := M.grow hW; y_indexR (e := 59) (sz := 6) S (by kernel_rfl) rfl ((M.frs hv).1) rfl (by first | omega | (simp; done) | (simp; omega))) ?_; clear S a; intro a S
  refine k_pure (listed' := #[true, true, true, true, true, true, true, true, false, false, false, false, false, false, false]) 7 S rfl rfl rfl rfl (by kernel_rfl) rfl (fun _ d _ _ _ h => by cases d <;> exact h) (fun w => y_fieldAddr (k := 1) S (by kernel_rfl) rfl) ?_; clear S a; intro a S
  refine k_read (listed' := #[true, true, true, true, true, true, true, true, true, false, false, false, false, false, false]) 8 S rfl rfl rfl rfl (by kernel_rfl) rfl (fun _ d _ _ _ h => by cases d <;> exact h) (fun w hW => have M := M.grow hW; y_load S (by kernel_rfl) rfl (((M.frs hv).row hx0 hrow0).1.one 1 rfl)) ?_; clear S a; intro a S
  refine k_one (listed' := #[true, true, true, true, true, true, true, true, true, true, false, false, false, false, false]) 9 rfl (by kernel_rfl) rfl ?_
  refine st_call (xs := [(Operand.tmp 34), (Operand.tmp 38), (Operand.tmp 42)]) S (enters_of Try.func20 (by decide) rfl) rfl rfl rfl (cut_any v' (outF fs) f0.seq f0.inc _ ((M.readRow 0 rfl (by unfold maxLen; omega)).wide (Nat.zero_le _) (M.fits _ (List.mem_of_getElem? (show _[0]? = _ from rfl))).2) (hseq _ (List.mem_of_getElem? hx0))) ?_
  rintro _ w6 ⟨v2, rfl, hK, cs2, hF⟩; refine ⟨_, rfl, ?_⟩; clear S a; intro a S
  obtain ⟨lo2, hi2, hlo2, M⟩ := M.pushFrs hK hF
  refine wpList_nil ?_; refine then_normal ?_; refine ⟨fun _ => hK, ?_⟩
  refine k_pure (listed' := #[true, true, true, true, true, true, true, true, true, true, true, false, false, false, false]) 10 S rfl rfl rfl rfl (by kernel_rfl) rfl (fun _ d _ _ _ h => by cases d <;> exact h) (fun w => y_move S rfl) ?_; clear S a; intro a S
  refine k_pure (listed' := #[true, true, true, true, true, true, true, true, true, true, true, true, false, false, false]) 11 S rfl rfl rfl rfl (by kernel_rfl) rfl (fun _ d _ _ _ h => by cases d <;> exact h) (fun w => y_extract S rfl rfl) ?_; clear S a; intro a S
  refine k_pure (listed' := #[true, true, true, true, true, true, true, true, true, true, true, true, true, false, false]) 12 S rfl rfl rfl rfl (by kernel_rfl) rfl (fun _ d _ _ _ h => by cases d <;> exact h) (fun w => y_extract S rfl rfl) ?_; clear S a; intro a S
  refine k_pure (listed' := #[true, true, true, true, true, true, true, true, true, true, true, true, true, true, false]) 13 S rfl rfl rfl rfl (by kernel_rfl) rfl (fun _ d _ _ _ h => by cases d <;> exact h) (fun w => y_assign S rfl) ?_; clear S a; intro a S
  refine k_pure (listed' := #[true, true, true, true, true, true, true, true, true, true, true, true, true, true, true]) 14 S rfl rfl rfl rfl (by kernel_rfl) rfl (fun _ d _ _ _ h => by cases d <;> exact h) (fun w => y_assign S rfl) ?_; clear S a; intro a S
  refine k_end (by kernel_rfl) ?_
  refine then_normal ?_
  refine wp_seq ?_
  refine nxD ?_
  refine st_go [1, 1, 1] S rfl (by kernel_rfl) ?_; clear S a; intro a S
  refine st_if (t := 48) S rfl ?_ ?_
  · clear S; intro h48 S
    refine st_go [0, 0, 0, 0, 0, 1] S rfl (by kernel_rfl) ?_; clear S a; intro a S
    replace S := S.sub [(0, _), (4, _), (19, _), (20, _), (21, _), (22, _), (7, _), (8, _), (54, _)] rfl
    refine nxC ?_
    refine st_condT S rfl ?_
    refine nxD ?_
    refine st_go [1, 1] S rfl (by kernel_rfl) ?_; clear S a; intro a S
    refine nxC ?_
    refine wp_ret ?_
    refine then_ret ?_
    refine end_two S rfl (res_tmp rfl) (res_tmp rfl) ?_
    exact joinPost_no M (by
      rintro ⟨f', bs', r, e, h2, h3, h4, h5⟩
      have e1 : f' = f0 := by rw [e] at hx0; simp at hx0; exact hx0.1
      subst e1
      first
        | (apply h48; unfold cutE; rw [if_pos h4])
        | (apply h54; unfold cutR; rw [if_pos h4, h5]))
  clear S; intro h48 S
  refine st_go [1] S rfl (by kernel_rfl) ?_; clear S a; intro a S
  refine st_y S rfl rfl rfl (y_lenR (E := 59) S rfl ((M.own 0 rfl).1) (by kernel_rfl)) ?_; clear S a; intro a S
  refine st_go [1] S rfl (by kernel_rfl) ?_; clear S a; intro a S
  refine st_y S rfl rfl rfl (y_lenR (E := 59) S rfl ((M.frs hv).1) (by kernel_rfl)) ?_; clear S a; intro a S
  refine st_go [1, 1] S rfl (by kernel_rfl) ?_; clear S a; intro a S
  replace S := S.sub [(0, _), (4, _), (19, _), (20, _), (21, _), (22, _), (7, _), (8, _), (54, _)] rfl
  refine nxC ?_
  refine st_if (t := 54) S rfl ?_ ?_
  · clear S; intro h54 S
    refine st_condT S rfl ?_
    refine nxD ?_
    refine st_go [1, 1] S rfl (by kernel_rfl) ?_; clear S a; intro a S
    refine nxC ?_
    refine wp_ret ?_
    refine then_ret ?_
    refine end_two S rfl (res_tmp rfl) (res_tmp rfl) ?_
    exact joinPost_no M (by
      rintro ⟨f', bs', r, e, h2, h3, h4, h5⟩
      have e1 : f' = f0 := by rw [e] at hx0; simp at hx0; exact hx0.1
      subst e1
      first
        | (apply h48; unfold cutE; rw [if_pos h4])
        | (apply h54; unfold cutR; rw [if_pos h4, h5]))
  clear S; intro h54 S
  refine st_condF S rfl ?_
  refine wp_skip ?_
  refine then_normal ?_
  refine wp_seq ?_
  refine nxD ?_
  have hc0 : cutOk (outF fs) f0.seq f0.inc := by
    by_cases h : cutOk (outF fs) f0.seq f0.inc
    · exact h
    · unfold cutE at h48; rw [if_neg h] at h48; split at h48 <;> omega
  have hlen : (cutR (outF fs) f0.seq f0.inc).length = fs.length := by omega
  refine st_y S rfl rfl rfl (y_move S rfl) ?_; clear S a; intro a S
  refine st_y S rfl rfl rfl (y_lenR (E := 59) S rfl ((M.frs hv).1) (by kernel_rfl)) ?_; clear S a; intro a S
  refine st_go [1] S rfl (by kernel_rfl) ?_; clear S a; intro a S
  refine nxC ?_
  refine wp_block ?_
  refine wp_loop_g (fun m a w' => ∃ (k : Nat), k ≤ fs.length ∧ m = fs.length - k ∧ Sees 71 a [(0, v), (4, v'), (7, v2), (55, v), (56, .int .i64 (fs.length : Nat)), (57, .int .i64 (k : Int))] ∧ Mem w w' [.own lo2 hi2 (fun w => FrsC cs2 lo2 hi2 w v2 (cutR (outF fs) f0.seq f0.inc)), rowE lo hi 5 1 v' (outF fs).length (bcells (outF fs))] ∧ ∀ i, i < k → fs[i]? = (cutR (outF fs) f0.seq f0.inc)[i]?) (fs.length) ?_ ?_
  · skip
    exact ⟨0, Nat.zero_le _, rfl, S.sub _ rfl, M, fun i hi => by omega⟩
  clear S M a; intro m a wl
  rintro ⟨k, hk, rfl, S, M, hsame⟩
  refine nxD ?_
  refine st_go [1] S rfl (by kernel_rfl) ?_; clear S a; intro a S
  refine nxC ?_
  refine wp_seq ?_
  refine st_fi (t := 58) S rfl ?_ ?_
  · clear S; intro h58 S
    refine st_condF S rfl ?_
    refine wp_exit ?_
    refine then_exit ?_
    refine then_exit ?_
    refine block_hit ?_
    refine nxE ?_
    refine st_go [1, 1, 1] S rfl (by kernel_rfl) ?_; clear S a; intro a S
    refine nxC ?_
    refine wp_ret ?_
    refine end_two S rfl (res_tmp rfl) (res_tmp rfl) ?_
    obtain rfl : k = fs.length := by omega
    have hjo : joinOk fs := by
      obtain ⟨x, r, e⟩ : ∃ x r, fs = x :: r := by cases fs with | nil => simp at hx0 | cons x r => exact ⟨x, r, rfl⟩
      have e0 : x = (f0, bs0) := by rw [e] at hx0; simpa using hx0
      refine ⟨f0, bs0, r, by rw [e, e0], by omega, hmay, hc0, ?_⟩
      unfold cutR at hsame hlen
      rw [if_pos hc0] at hsame hlen
      apply List.ext_getElem?
      intro i
      rcases Nat.lt_or_ge i fs.length with h | h
      · exact (hsame i h).symm
      · rw [List.getElem?_eq_none h, List.getElem?_eq_none (by omega)]
    exact ⟨_, by unfold joinE; rw [if_pos hjo], M.below, fun _ => M.fresh 1 rfl, fun h => absurd hjo h⟩
  clear S; intro h58 S
  refine st_condT S rfl ?_
  refine wp_skip ?_
  refine then_normal ?_
  refine wp_seq ?_
  refine wp_block ?_
  refine nxD ?_
  have hk' : k < fs.length := by omega
  obtain ⟨⟨f, bs⟩, hx⟩ : ∃ x, fs[k]? = some x := ⟨fs[k], List.getElem?_eq_getElem hk'⟩
  obtain ⟨lv, hrow, hlv⟩ := hv.2 k f bs hx
  obtain ⟨ad, cap, hlvE, -, -⟩ := hlv.form
  subst hlvE
  obtain ⟨⟨g, gs⟩, hx2⟩ : ∃ x, (cutR (outF fs) f0.seq f0.inc)[k]? = some x := ⟨_, List.getElem?_eq_getElem (by omega)⟩
  obtain ⟨lv2, hrow2, hlv2⟩ := (M.own 0 rfl).2 k g gs hx2
  refine st_y S rfl rfl rfl (y_move S rfl) ?_; clear S a; intro a S
  refine st_y S rfl rfl rfl (y_indexR (e := 59) (sz := 6) S (by kernel_rfl) rfl ((M.frs hv).1) rfl (by first | omega | (simp; done) | (simp; omega))) ?_; clear S a; intro a S
  try simp only [Int.toNat_natCast, Nat.mul_one, Nat.zero_add] at S
  refine st_y S rfl rfl rfl (y_loadAgg S (by kernel_rfl) rfl rfl (((M.frs hv).row hx hrow).1)) ?_; clear S a; intro a S
  refine st_alloc S M rfl rfl #[.int .i64 0, .int .i64 0, .int .i64 0, .int .i64 0, .int .u32 0, .slice none 0 0] (by kernel_rfl) ?_; clear S M a; intro a w7 b2 S M hB
  refine st_go [1] S rfl (by kernel_rfl) ?_; clear S a; intro a S
  refine st_store (sz := 6) (us := [_, _, _, _, _, _]) S M 0 rfl (by kernel_rfl) rfl rfl rfl rfl rfl rfl (by first | decide | (simp; done) | (simp; omega)) ?_; clear M; intro w8 M
  simp only [putL, List.set_cons_zero, List.set_cons_succ, Nat.reduceAdd] at M
  refine nxC ?_
  refine wp_seq ?_
  refine wp_quiet M (by kernel_rfl) (by kernel_rfl) ?_
  refine qt_y S rfl rfl rfl (fun w M => y_loadAgg (cs := [_, _, _, _, _, _]) S (by kernel_rfl) rfl rfl (M.cellsAt (k := 6) 0 rfl rfl)) ?_; clear S a; intro a S
  refine qt_y S rfl rfl rfl (fun w M => y_move S rfl) ?_; clear S a; intro a S
  refine qt_y S rfl rfl rfl (fun w M => y_move S rfl) ?_; clear S a; intro a S
  refine qt_y S rfl rfl rfl (fun w M => y_indexR (e := 59) (sz := 6) S (by kernel_rfl) rfl ((M.own 1 rfl).1) rfl (by first | omega | (simp; done) | (simp; omega))) ?_; clear S a; intro a S
  try simp only [Int.toNat_natCast, Nat.mul_one, Nat.zero_add] at S
  refine qt_y S rfl rfl rfl (fun w M => y_loadAgg S (by kernel_rfl) rfl rfl (((M.own 1 rfl).row hx2 hrow2).1)) ?_; clear S a; intro a S
  refine qt_call (xs := [(Operand.tmp 62), (Operand.tmp 66)]) S (enters_of Try.func61 (by decide) rfl) rfl rfl rfl (quiet_of fun w M => sameF_any f g _ _ bs gs w (((M.frs hv).row hx hrow).2.wide (Nat.le_refl _) M.below.size) (((M.own 1 rfl).row hx2 hrow2).2.wide (Nat.zero_le _) (M.fits _ (List.mem_of_getElem? (show _[1]? = _ from rfl))).2)) ?_; clear S a; intro a S
  refine qt_y S rfl rfl rfl (fun w M => y_not S rfl) ?_; clear S a; intro a S
  refine wpQuiet_nil ?_; clear M; intro w10 M
  refine then_normal ?_
  refine st_fi (t := 68) S rfl ?_ ?_
  · clear S; intro h68 S
    refine st_condF S rfl ?_
    refine wp_skip ?_
    refine block_normal ?_
    refine nxF ?_
    (first | refine st_y S rfl rfl rfl (y_addN S rfl rfl (by omega)) ?_ | refine st_y S rfl rfl rfl (y_int S rfl rfl rfl) ?_); clear S a; intro a S
    refine st_go [1] S rfl (by kernel_rfl) ?_; clear S a; intro a S
    refine nxC ?_
    refine ⟨fs.length - (k + 1), by omega, k + 1, by omega, rfl, S.sub _ rfl, M.drop 0, ?_⟩
    intro i hi'
    rcases Nat.lt_or_ge i k with h | h
    · exact hsame i h
    · have : i = k := by omega
      subst this
      have h68' : f.same g bs gs = true := by simpa using h68
      obtain ⟨rfl, rfl⟩ := Fr.same_iff.1 h68'
      rw [hx, hx2]
  clear S; intro h68 S
  refine st_condT S rfl ?_
  refine nxD ?_
  refine st_go [1, 1] S rfl (by kernel_rfl) ?_; clear S a; intro a S
  refine nxC ?_
  refine wp_ret ?_
  refine block_ret ?_
  refine then_ret ?_
  refine then_ret ?_
  refine block_ret ?_
  refine then_ret ?_
  refine end_two S rfl (res_tmp rfl) (res_tmp rfl) ?_
  exact joinPost_no M (by
    rintro ⟨f', bs', r, e, h2, h3, h4, h5⟩
    have e1 : f' = f0 := by rw [e] at hx0; simp at hx0; exact hx0.1
    subst e1
    unfold cutR at hx2
    rw [if_pos h4, h5, hx] at hx2
    have e2 := Option.some.inj hx2
    have : f.same g bs gs = true := Fr.same_iff.2 ⟨congrArg Prod.fst e2, congrArg Prod.snd e2⟩
    rw [this] at h68; simp at h68)

end Go.Proofs.Ytafejnbfgkkjkaa
