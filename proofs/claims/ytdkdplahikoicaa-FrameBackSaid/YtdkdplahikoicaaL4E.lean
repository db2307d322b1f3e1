/-
  FrameBack.
-/
import Derived.Test.YtdkdplahikoicaaBackB
namespace Go.Proofs.Ytdkdplahikoicaa
open Go.RowKit Go.Sort

set_option maxHeartbeats 8000000 in
theorem back_any (v rv : Value) (bs raw : List UInt8) (seq inc at_ : Int) (bits : BitVec 32) (w : World) (hv : Bs 0 w.heap.size w v bs) (hr : Bs 0 w.heap.size w rv raw) (hseq : -9223372036854775808 ≤ seq ∧ seq ≤ 9223372036854775807) :
    Calls Try.prog 6 #[v, .int .i64 seq, .int .i64 inc, .int .u32 (bits.toNat : Int), .int .i64 at_, rv] w fun e w' => e = .returned (.bool true) ∧ Below w.heap.size w w' := by
  have M := Mem.start w
  have hzr := rdL_le raw
  have hzb := ifL_bytesF (rdF raw) (rdL raw)
  refine calls_enter Try.func6 rfl 183 rfl rfl ?_; intro a S
  refine wp_seq ?_
  -- region 0 law.go:54
  refine wp_region_lit ?_
  refine st_y S rfl rfl rfl (y_assign S rfl) ?_; clear S a; intro a S
  refine wpList_nil ?_
  replace S := S.sub [(0, _), (1, _), (2, _), (3, _), (4, _), (5, _), (12, _)] rfl
  refine then_normal ?_
  refine wp_seq ?_
  refine wp_seq ?_
  -- region 1 law.go:55
  refine wp_region_lit ?_
  refine st_y S rfl rfl rfl (y_move S rfl) ?_; clear S a; intro a S
  refine st_y S rfl rfl rfl (y_lenR (E := 5) S rfl (M.arg hv) (by kernel_rfl)) ?_; clear S a; intro a S
  refine st_y S rfl rfl rfl (y_int S rfl rfl rfl) ?_; clear S a; intro a S
  refine st_y S rfl rfl rfl (y_move S rfl) ?_; clear S a; intro a S
  refine st_split (t := 36) S rfl ?_ ?_
  · clear S; intro h36 S
    first | replace h36 := nrmA h36 | replace h36 := nrmB h36 | skip
    first | replace h36 := nrm1 h36 | replace h36 := nrm2 h36 | replace h36 := nrm3 h36 | replace h36 := nrm4 h36 | replace h36 := nrm5 h36 | replace h36 := nrm6 h36 | replace h36 := of_decide_eq_true h36 | replace h36 := of_decide_eq_false h36 | skip
    refine st_no S rfl rfl rfl ?_; clear S a; intro a S
    refine st_no S rfl rfl rfl ?_; clear S a; intro a S
    refine st_no S rfl rfl rfl ?_; clear S a; intro a S
    refine st_y S rfl rfl rfl (y_pickT S rfl rfl) ?_; clear S a; intro a S
    refine wpList_nil ?_
    replace S := S.sub [(0, _), (1, _), (2, _), (3, _), (4, _), (5, _), (12, _), (40, _)] rfl
    refine then_normal ?_
    refine st_condT S rfl ?_
    refine wp_seq ?_
    -- region 2 law.go:56
    refine wp_region_lit ?_
    refine st_call (xs := []) S (enters_of Try.func7 (by decide) rfl) rfl rfl rfl (wakes04 _) ?_
    rintro _ w1 ⟨rfl, hK⟩; refine ⟨_, rfl, ?_⟩; clear S a; intro a S; replace M := M.grow hK
    refine st_y S rfl rfl rfl (y_assign S rfl) ?_; clear S a; intro a S
    refine wpList_nil ?_
    replace S := S.sub [(0, _), (1, _), (2, _), (3, _), (4, _), (5, _), (40, _), (12, _)] rfl
    refine then_normal ?_
    refine wp_ret ?_
    refine then_ret ?_
    refine end_one S rfl (res_tmp rfl) ?_
    exact ⟨rfl, M.below⟩
  · clear S; intro h36 S
    first | replace h36 := nrmA h36 | replace h36 := nrmB h36 | skip
    first | replace h36 := nrm1 h36 | replace h36 := nrm2 h36 | replace h36 := nrm3 h36 | replace h36 := nrm4 h36 | replace h36 := nrm5 h36 | replace h36 := nrm6 h36 | replace h36 := of_decide_eq_true h36 | replace h36 := of_decide_eq_false h36 | skip
    refine st_y S rfl rfl rfl (y_move S rfl) ?_; clear S a; intro a S
    refine st_y S rfl rfl rfl (y_lenR (E := 5) S rfl (M.arg hr) (by kernel_rfl)) ?_; clear S a; intro a S
    refine st_y S rfl rfl rfl (y_int S rfl rfl rfl) ?_; clear S a; intro a S
    refine st_y S rfl rfl rfl (y_pickF S rfl rfl) ?_; clear S a; intro a S
    refine wpList_nil ?_
    replace S := S.sub [(0, _), (1, _), (2, _), (3, _), (4, _), (5, _), (12, _), (40, _)] rfl
    refine then_normal ?_
    refine st_split (t := 40) S rfl ?_ ?_
    · clear S; intro h40 S
      first | replace h40 := nrmA h40 | replace h40 := nrmB h40 | skip
      first | replace h40 := nrm1 h40 | replace h40 := nrm2 h40 | replace h40 := nrm3 h40 | replace h40 := nrm4 h40 | replace h40 := nrm5 h40 | replace h40 := nrm6 h40 | replace h40 := of_decide_eq_true h40 | replace h40 := of_decide_eq_false h40 | skip
      refine st_condT S rfl ?_
      refine wp_seq ?_
      -- region 2 law.go:56
      refine wp_region_lit ?_
      refine st_call (xs := []) S (enters_of Try.func7 (by decide) rfl) rfl rfl rfl (wakes04 _) ?_
      rintro _ w2 ⟨rfl, hK⟩; refine ⟨_, rfl, ?_⟩; clear S a; intro a S; replace M := M.grow hK
      refine st_y S rfl rfl rfl (y_assign S rfl) ?_; clear S a; intro a S
      refine wpList_nil ?_
      replace S := S.sub [(0, _), (1, _), (2, _), (3, _), (4, _), (5, _), (40, _), (12, _)] rfl
      refine then_normal ?_
      refine wp_ret ?_
      refine then_ret ?_
      refine end_one S rfl (res_tmp rfl) ?_
      exact ⟨rfl, M.below⟩
    · clear S; intro h40 S
      first | replace h40 := nrmA h40 | replace h40 := nrmB h40 | skip
      first | replace h40 := nrm1 h40 | replace h40 := nrm2 h40 | replace h40 := nrm3 h40 | replace h40 := nrm4 h40 | replace h40 := nrm5 h40 | replace h40 := nrm6 h40 | replace h40 := of_decide_eq_true h40 | replace h40 := of_decide_eq_false h40 | skip
      refine st_condF S rfl ?_
      refine wp_skip ?_
      refine then_normal ?_
      refine wp_seq ?_
      -- region 3 law.go:58
      refine wp_region_lit ?_
      refine st_y S rfl rfl rfl (y_move S rfl) ?_; clear S a; intro a S
      refine st_y S rfl rfl rfl (y_move S rfl) ?_; clear S a; intro a S
      refine st_y S rfl rfl rfl (y_move S rfl) ?_; clear S a; intro a S
      refine st_call (xs := [(Operand.tmp 43), (Operand.tmp 44), (Operand.tmp 45)]) S (enters_of Try.func8 (by decide) rfl) rfl rfl rfl (cut_any _ bs seq inc _ (M.argW hv) hseq) ?_
      rintro _ w3 ⟨v1, rfl, hK, cs1, hF⟩; refine ⟨_, rfl, ?_⟩; clear S a; intro a S
      obtain ⟨lo1, hi1, hlo1, M⟩ := M.pushFrs hK hF
      refine st_y S rfl rfl rfl (y_move S rfl) ?_; clear S a; intro a S
      refine st_y S rfl rfl rfl (y_extract S rfl rfl) ?_; clear S a; intro a S
      refine st_y S rfl rfl rfl (y_extract S rfl rfl) ?_; clear S a; intro a S
      refine st_y S rfl rfl rfl (y_assign S rfl) ?_; clear S a; intro a S
      refine st_y S rfl rfl rfl (y_assign S rfl) ?_; clear S a; intro a S
      refine wpList_nil ?_
      replace S := S.sub [(0, _), (1, _), (2, _), (3, _), (4, _), (5, _), (12, _), (40, _), (13, _), (14, _)] rfl
      refine then_normal ?_
      refine wp_seq ?_
      refine wp_seq ?_
      -- region 4 law.go:59
      refine wp_region_lit ?_
      refine st_y S rfl rfl rfl (y_move S rfl) ?_; clear S a; intro a S
      refine st_y S rfl rfl rfl (y_int S rfl rfl rfl) ?_; clear S a; intro a S
      refine wpList_nil ?_
      replace S := S.sub [(0, _), (1, _), (2, _), (3, _), (4, _), (5, _), (12, _), (40, _), (13, _), (14, _), (50, _)] rfl
      refine then_normal ?_
      refine st_split (t := 50) S rfl ?_ ?_
      · clear S; intro h50 S
        first | replace h50 := nrmA h50 | replace h50 := nrmB h50 | skip
        first | replace h50 := nrm1 h50 | replace h50 := nrm2 h50 | replace h50 := nrm3 h50 | replace h50 := nrm4 h50 | replace h50 := nrm5 h50 | replace h50 := nrm6 h50 | replace h50 := of_decide_eq_true h50 | replace h50 := of_decide_eq_false h50 | skip
        refine st_condT S rfl ?_
        refine wp_seq ?_
        -- region 5 law.go:60
        refine wp_region_lit ?_
        have hok : cutOk bs seq inc := cutE_zero.1 h50
        have hn2 : nOf bs.length ≤ 2 := by obtain ⟨_, _, _, h4, _⟩ := hok; unfold nOf; omega
        have hlen := cutR_length hok
        refine st_y S rfl rfl rfl (y_assign S rfl) ?_; clear S a; intro a S
        refine wpList_nil ?_
        replace S := S.sub [(0, _), (1, _), (2, _), (3, _), (4, _), (5, _), (12, _), (40, _), (13, _), (14, _), (50, _), (15, _)] rfl
        refine then_normal ?_
        refine wp_seq ?_
        refine wp_seq ?_
        -- region 6 law.go:61
        refine wp_region_lit ?_
        refine st_y S rfl rfl rfl (y_assign S rfl) ?_; clear S a; intro a S
        refine wpList_nil ?_
        replace S := S.sub [(0, _), (1, _), (2, _), (3, _), (4, _), (5, _), (12, _), (40, _), (13, _), (14, _), (50, _), (15, _), (16, _)] rfl
        refine then_normal ?_
        refine wp_block ?_
        refine wp_loop_g (fun m a w' => ∃ (k lo hi : Nat) (v' : Value) (cs lvs : List Value) (es : List Ent), k ≤ nOf bs.length ∧ m = nOf bs.length - k ∧ Sees 183 a [(0, v), (3, .int .u32 (bits.toNat : Int)), (4, .int .i64 at_), (5, rv), (13, v1), (15, v'), (16, .int .i64 (k : Int))] ∧ Mem w w' (rowE lo hi 33 6 v' k cs :: .own lo1 hi1 (fun w => FrsC cs1 lo1 hi1 w v1 (cutR bs seq inc)) :: es) ∧ lvs.length = k ∧ cs.length = k * 6 ∧ BackOk bs seq inc cs lvs es) (nOf bs.length) ?_ ?_
        · skip
          exact ⟨0, _, _, _, [], [], [], Nat.zero_le _, rfl, S.sub _ rfl, M.rowNil _ _, rfl, rfl, fun i lv h => by simp at h⟩
        · clear S M a; intro m a wl
          rintro ⟨k, lo, hi, v', cs, lvs, es, hk, rfl, S, M, hlk, hcl, hbk⟩
          refine wp_seq ?_
          refine wp_seq ?_
          -- region 7 law.go:61
          refine wp_region_lit ?_
          refine st_y S rfl rfl rfl (y_move S rfl) ?_; clear S a; intro a S
          refine st_y S rfl rfl rfl (y_move S rfl) ?_; clear S a; intro a S
          refine st_y S rfl rfl rfl (y_lenR (E := 33) S rfl ((M.own 1 rfl).1) (by kernel_rfl)) ?_; clear S a; intro a S
          refine st_y S rfl rfl rfl (y_int S rfl rfl rfl) ?_; clear S a; intro a S
          refine wpList_nil ?_
          replace S := S.sub [(0, _), (3, _), (4, _), (5, _), (13, _), (15, _), (16, _), (54, _)] rfl
          refine then_normal ?_
          refine st_split (t := 54) S rfl ?_ ?_
          · clear S; intro h54 S
            first | replace h54 := nrmA h54 | replace h54 := nrmB h54 | skip
            first | replace h54 := nrm1 h54 | replace h54 := nrm2 h54 | replace h54 := nrm3 h54 | replace h54 := nrm4 h54 | replace h54 := nrm5 h54 | replace h54 := nrm6 h54 | replace h54 := of_decide_eq_true h54 | replace h54 := of_decide_eq_false h54 | skip
            refine st_condT S rfl ?_
            refine wp_skip ?_
            refine then_normal ?_
            refine wp_seq ?_
            refine wp_block ?_
            refine wp_seq ?_
            -- region 9 law.go:62
            refine wp_region_lit ?_
            have hk' : k < nOf bs.length := by omega
            have hmay := frOf_may hok hk'
            have hx := cutR_get hok hk'
            obtain ⟨f, ld, hfr⟩ : ∃ f ld, frOf bs seq inc k = (f, ld) := ⟨_, _, rfl⟩
            rw [hfr] at hx hmay
            replace hmay : f.may ld.length = true := hmay
            have hl64 := bytesF_length hmay
            have hm64 : (bytesF f ld).length ≤ maxLen := by rw [hl64]; unfold maxLen; omega
            have hld : ld.length ≤ 45 := by have := hmay; simp only [Fr.may, decide_eq_true_eq] at this; omega
            obtain ⟨lv, hrow, -⟩ := (M.own 1 rfl).2 k _ _ hx
            refine st_y S rfl rfl rfl (y_move S rfl) ?_; clear S a; intro a S
            refine st_y S rfl rfl rfl (y_move S rfl) ?_; clear S a; intro a S
            refine st_y S rfl rfl rfl (y_indexR (e := 33) (sz := 6) S (by kernel_rfl) rfl ((M.own 1 rfl).1) rfl (by first | omega | (simp; done) | (simp; omega))) ?_; clear S a; intro a S
            try simp only [Int.toNat_natCast, Nat.mul_one, Nat.zero_add] at S
            refine st_y S rfl rfl rfl (y_loadAgg S (by kernel_rfl) rfl rfl (((M.own 1 rfl).row hx hrow).1)) ?_; clear S a; intro a S
            refine st_call (xs := [(Operand.tmp 61)]) S (enters_of Try.func13 (by decide) rfl) rfl rfl rfl (bytes_any f _ ld _ (((M.own 1 rfl).row hx hrow).2.wide (Nat.zero_le _) (M.fits _ (List.mem_of_getElem? (show _[1]? = _ from rfl))).2)) ?_
            rintro _ w4 ⟨v17, rfl, hK, hF, -⟩; refine ⟨_, rfl, ?_⟩; clear S a; intro a S
            rw [if_pos hmay] at S
            obtain ⟨loS, hiS, -, M⟩ := M.pushFresh (hF hmay)
            refine st_y S rfl rfl rfl (y_move S rfl) ?_; clear S a; intro a S
            refine st_y S rfl rfl rfl (y_extract S rfl rfl) ?_; clear S a; intro a S
            refine st_y S rfl rfl rfl (y_extract S rfl rfl) ?_; clear S a; intro a S
            refine st_y S rfl rfl rfl (y_assign S rfl) ?_; clear S a; intro a S
            refine st_y S rfl rfl rfl (y_assign S rfl) ?_; clear S a; intro a S
            refine wpList_nil ?_
            replace S := S.sub [(0, _), (3, _), (4, _), (5, _), (13, _), (15, _), (16, _), (54, _), (17, _), (18, _)] rfl
            refine then_normal ?_
            refine wp_seq ?_
            -- region 10 law.go:63
            refine wp_region_lit ?_
            refine st_y S rfl rfl rfl (y_move S rfl) ?_; clear S a; intro a S
            refine st_call (xs := [(Operand.tmp 66)]) S (enters_of Try.func15 (by decide) rfl) rfl rfl rfl (read_any v17 (bytesF f ld) _ (M.wide (k := 0) rfl hm64) (by omega)) ?_
            rintro _ w5 ⟨f', lv', E, rfl, hK, hR, -⟩; refine ⟨_, rfl, ?_⟩; clear S a; intro a S
            obtain ⟨hf', hE', hF2⟩ := hR f ld (read_bytes hmay)
            subst f' E
            obtain ⟨adR, cpR, hlE, -, -⟩ := (hF2.rd (by unfold maxLen; omega)).form
            obtain ⟨loR, hiR, -, M⟩ := M.pushFresh hF2
            subst hlE
            refine st_y S rfl rfl rfl (y_move S rfl) ?_; clear S a; intro a S
            refine st_y S rfl rfl rfl (y_extract S rfl rfl) ?_; clear S a; intro a S
            refine st_y S rfl rfl rfl (y_extract S rfl rfl) ?_; clear S a; intro a S
            refine st_alloc S M rfl rfl #[.int .i64 0, .int .i64 0, .int .i64 0, .int .i64 0, .int .u32 0, .slice none 0 0] (by kernel_rfl) ?_; clear S M a; intro a w6 bR S M hB
            refine st_store (sz := 6) (us := [_, _, _, _, _, _]) S M 0 rfl (by kernel_rfl) rfl rfl rfl rfl rfl rfl (by first | decide | (simp; done) | (simp; omega)) ?_; clear M; intro w7 M
            simp only [putL, List.set_cons_zero, List.set_cons_succ, Nat.reduceAdd] at M
            refine st_y S rfl rfl rfl (y_assign S rfl) ?_; clear S a; intro a S
            refine wpList_nil ?_
            replace S := S.sub [(0, _), (3, _), (4, _), (5, _), (13, _), (15, _), (16, _), (54, _), (17, _), (18, _), (19, _), (20, _)] rfl
            refine then_normal ?_
            refine wp_seq ?_
            refine wp_seq ?_
            -- region 11 law.go:64
            skip
            refine wp_regionK [] #[false, false, false, false, false, false, false, false, false, false, false, false, false, false, false, false, false, false, false, false] rfl M (by kernel_rfl) ?_; clear M; intro w8 M
            refine k_read (listed' := #[true, false, false, false, false, false, false, false, false, false, false, false, false, false, false, false, false, false, false, false]) 0 S rfl rfl rfl rfl (by kernel_rfl) rfl (fun _ d _ _ _ h => by cases d <;> exact h) (fun w hW => have M := M.grow hW; y_move S rfl) ?_; clear S a; intro a S
            refine k_read (listed' := #[true, true, false, false, false, false, false, false, false, false, false, false, false, false, false, false, false, false, false, false]) 1 S rfl rfl rfl rfl (by kernel_rfl) rfl (fun _ d _ _ _ h => by cases d <;> exact h) (fun w hW => have M := M.grow hW; y_int S rfl rfl rfl) ?_; clear S a; intro a S
            refine k_read (listed' := #[true, true, true, false, false, false, false, false, false, false, false, false, false, false, false, false, false, false, false, false]) 2 S rfl rfl rfl rfl (by kernel_rfl) rfl (fun _ d _ _ _ h => by cases d <;> exact h) (fun w hW => have M := M.grow hW; y_move S rfl) ?_; clear S a; intro a S
            refine st_split (t := 72) S rfl ?_ ?_
            · clear S; intro h72 S
              first | replace h72 := nrmA h72 | replace h72 := nrmB h72 | skip
              first | replace h72 := nrm1 h72 | replace h72 := nrm2 h72 | replace h72 := nrm3 h72 | replace h72 := nrm4 h72 | replace h72 := nrm5 h72 | replace h72 := nrm6 h72 | replace h72 := of_decide_eq_true h72 | replace h72 := of_decide_eq_false h72 | skip
              exact absurd rfl h72
            · clear S; intro h72 S
              first | replace h72 := nrmA h72 | replace h72 := nrmB h72 | skip
              first | replace h72 := nrm1 h72 | replace h72 := nrm2 h72 | replace h72 := nrm3 h72 | replace h72 := nrm4 h72 | replace h72 := nrm5 h72 | replace h72 := nrm6 h72 | replace h72 := of_decide_eq_true h72 | replace h72 := of_decide_eq_false h72 | skip
              refine k_read (listed' := #[true, true, true, true, false, false, false, false, false, false, false, false, false, false, false, false, false, false, false, false]) 3 S rfl rfl rfl rfl (by kernel_rfl) rfl (fun _ d _ _ _ h => by cases d <;> exact h) (fun w hW => have M := M.grow hW; y_move S rfl) ?_; clear S a; intro a S
              refine k_read (listed' := #[true, true, true, true, true, false, false, false, false, false, false, false, false, false, false, false, false, false, false, false]) 4 S rfl rfl rfl rfl (by kernel_rfl) rfl (fun _ d _ _ _ h => by cases d <;> exact h) (fun w hW => have M := M.grow hW; y_int S rfl rfl rfl) ?_; clear S a; intro a S
              refine k_read (listed' := #[true, true, true, true, true, true, false, false, false, false, false, false, false, false, false, false, false, false, false, false]) 5 S rfl rfl rfl rfl (by kernel_rfl) rfl (fun _ d _ _ _ h => by cases d <;> exact h) (fun w hW => have M := M.grow hW; y_pickF S rfl rfl) ?_; clear S a; intro a S
              refine k_read (listed' := #[true, true, true, true, true, true, true, false, false, false, false, false, false, false, false, false, false, false, false, false]) 6 S rfl rfl rfl rfl (by kernel_rfl) rfl (fun _ d _ _ _ h => by cases d <;> exact h) (fun w hW => have M := M.grow hW; y_move S rfl) ?_; clear S a; intro a S
              refine st_split (t := 76) S rfl ?_ ?_
              · clear S; intro h76 S
                first | replace h76 := nrmA h76 | replace h76 := nrmB h76 | skip
                first | replace h76 := nrm1 h76 | replace h76 := nrm2 h76 | replace h76 := nrm3 h76 | replace h76 := nrm4 h76 | replace h76 := nrm5 h76 | replace h76 := nrm6 h76 | replace h76 := of_decide_eq_true h76 | replace h76 := of_decide_eq_false h76 | skip
                exact absurd rfl h76
              · clear S; intro h76 S
                first | replace h76 := nrmA h76 | replace h76 := nrmB h76 | skip
                first | replace h76 := nrm1 h76 | replace h76 := nrm2 h76 | replace h76 := nrm3 h76 | replace h76 := nrm4 h76 | replace h76 := nrm5 h76 | replace h76 := nrm6 h76 | replace h76 := of_decide_eq_true h76 | replace h76 := of_decide_eq_false h76 | skip
                refine k_read (listed' := #[true, true, true, true, true, true, true, true, false, false, false, false, false, false, false, false, false, false, false, false]) 7 S rfl rfl rfl rfl (by kernel_rfl) rfl (fun _ d _ _ _ h => by cases d <;> exact h) (fun w hW => have M := M.grow hW; y_move S rfl) ?_; clear S a; intro a S
                refine k_read (listed' := #[true, true, true, true, true, true, true, true, true, false, false, false, false, false, false, false, false, false, false, false]) 8 S rfl rfl rfl rfl (by kernel_rfl) rfl (fun _ d _ _ _ h => by cases d <;> exact h) (fun w hW => have M := M.grow hW; y_lenR (E := 5) S rfl (M.readRow 2 rfl hm64) (by kernel_rfl)) ?_; clear S a; intro a S
                refine k_read (listed' := #[true, true, true, true, true, true, true, true, true, true, false, false, false, false, false, false, false, false, false, false]) 9 S rfl rfl rfl rfl (by kernel_rfl) rfl (fun _ d _ _ _ h => by cases d <;> exact h) (fun w hW => have M := M.grow hW; y_int S rfl rfl rfl) ?_; clear S a; intro a S
                refine k_read (listed' := #[true, true, true, true, true, true, true, true, true, true, true, false, false, false, false, false, false, false, false, false]) 10 S rfl rfl rfl rfl (by kernel_rfl) rfl (fun _ d _ _ _ h => by cases d <;> exact h) (fun w hW => have M := M.grow hW; y_pickF S rfl rfl) ?_; clear S a; intro a S
                refine k_read (listed' := #[true, true, true, true, true, true, true, true, true, true, true, true, false, false, false, false, false, false, false, false]) 11 S rfl rfl rfl rfl (by kernel_rfl) rfl (fun _ d _ _ _ h => by cases d <;> exact h) (fun w hW => have M := M.grow hW; y_move S rfl) ?_; clear S a; intro a S
                refine st_split (t := 81) S rfl ?_ ?_
                · clear S; intro h81 S
                  first | replace h81 := nrmA h81 | replace h81 := nrmB h81 | skip
                  first | replace h81 := nrm1 h81 | replace h81 := nrm2 h81 | replace h81 := nrm3 h81 | replace h81 := nrm4 h81 | replace h81 := nrm5 h81 | replace h81 := nrm6 h81 | replace h81 := of_decide_eq_true h81 | replace h81 := of_decide_eq_false h81 | skip
                  exact absurd (by rw [hl64]; rfl) h81
                · clear S; intro h81 S
                  first | replace h81 := nrmA h81 | replace h81 := nrmB h81 | skip
                  first | replace h81 := nrm1 h81 | replace h81 := nrm2 h81 | replace h81 := nrm3 h81 | replace h81 := nrm4 h81 | replace h81 := nrm5 h81 | replace h81 := nrm6 h81 | replace h81 := of_decide_eq_true h81 | replace h81 := of_decide_eq_false h81 | skip
                  refine k_read (listed' := #[true, true, true, true, true, true, true, true, true, true, true, true, true, false, false, false, false, false, false, false]) 12 S rfl rfl rfl rfl (by kernel_rfl) rfl (fun _ d _ _ _ h => by cases d <;> exact h) (fun w hW => have M := M.grow hW; y_loadAgg (cs := [_, _, _, _, _, _]) S (by kernel_rfl) rfl rfl (M.cellsAt (k := 6) 0 rfl rfl)) ?_; clear S a; intro a S
                  refine k_read (listed' := #[true, true, true, true, true, true, true, true, true, true, true, true, true, true, false, false, false, false, false, false]) 13 S rfl rfl rfl rfl (by kernel_rfl) rfl (fun _ d _ _ _ h => by cases d <;> exact h) (fun w hW => have M := M.grow hW; y_move S rfl) ?_; clear S a; intro a S
                  refine k_read (listed' := #[true, true, true, true, true, true, true, true, true, true, true, true, true, true, true, false, false, false, false, false]) 14 S rfl rfl rfl rfl (by kernel_rfl) rfl (fun _ d _ _ _ h => by cases d <;> exact h) (fun w hW => have M := M.grow hW; y_move S rfl) ?_; clear S a; intro a S
                  refine k_read (listed' := #[true, true, true, true, true, true, true, true, true, true, true, true, true, true, true, true, false, false, false, false]) 15 S rfl rfl rfl rfl (by kernel_rfl) rfl (fun _ d _ _ _ h => by cases d <;> exact h) (fun w hW => have M := M.grow hW; y_indexR (e := 33) (sz := 6) S (by kernel_rfl) rfl ((M.own 4 rfl).1) rfl (by first | omega | (simp; done) | (simp; omega))) ?_; clear S a; intro a S
                  try simp only [Int.toNat_natCast, Nat.mul_one, Nat.zero_add] at S
                  refine k_read (listed' := #[true, true, true, true, true, true, true, true, true, true, true, true, true, true, true, true, true, false, false, false]) 16 S rfl rfl rfl rfl (by kernel_rfl) rfl (fun _ d _ _ _ h => by cases d <;> exact h) (fun w hW => have M := M.grow hW; y_loadAgg S (by kernel_rfl) rfl rfl (((M.own 4 rfl).row hx hrow).1)) ?_; clear S a; intro a S
                  refine k_one (listed' := #[true, true, true, true, true, true, true, true, true, true, true, true, true, true, true, true, true, true, false, false]) 17 rfl (by kernel_rfl) rfl ?_
                  refine st_call (xs := [(Operand.tmp 82), (Operand.tmp 86)]) S (enters_of Try.func19 (by decide) rfl) rfl rfl rfl (sameF_any f f _ _ ld ld _ (M.wide (k := 1) rfl (by unfold maxLen; omega)) (((M.own 4 rfl).row hx hrow).2.wide (Nat.zero_le _) (M.fits _ (List.mem_of_getElem? (show _[4]? = _ from rfl))).2)) ?_
                  rintro _ w9 ⟨rfl, hK⟩; refine ⟨_, rfl, ?_⟩; clear S a; intro a S; replace M := M.grow hK
                  refine wpList_nil ?_; refine then_normal ?_; refine ⟨fun _ => hK, ?_⟩
                  refine k_read (listed' := #[true, true, true, true, true, true, true, true, true, true, true, true, true, true, true, true, true, true, true, false]) 18 S rfl rfl rfl rfl (by kernel_rfl) rfl (fun _ d _ _ _ h => by cases d <;> exact h) (fun w hW => have M := M.grow hW; y_not S rfl) ?_; clear S a; intro a S
                  refine k_read (listed' := #[true, true, true, true, true, true, true, true, true, true, true, true, true, true, true, true, true, true, true, true]) 19 S rfl rfl rfl rfl (by kernel_rfl) rfl (fun _ d _ _ _ h => by cases d <;> exact h) (fun w hW => have M := M.grow hW; y_pickF S rfl rfl) ?_; clear S a; intro a S
                  refine k_end (by kernel_rfl) ?_
                  replace S := S.sub [(0, _), (3, _), (4, _), (5, _), (13, _), (15, _), (16, _), (54, _), (17, _), (18, _), (19, _), (20, _), (89, _)] rfl
                  refine then_normal ?_
                  refine st_split (t := 89) S rfl ?_ ?_
                  · clear S; intro h89 S
                    rw [Fr.same_iff.2 ⟨rfl, rfl⟩] at h89; cases h89
                  · clear S; intro h89 S
                    refine st_condF S rfl ?_
                    refine wp_skip ?_
                    refine then_normal ?_
                    refine wp_seq ?_
                    -- region 13 law.go:67
                    refine wp_region_lit ?_
                    refine st_y S rfl rfl rfl (y_move S rfl) ?_; clear S a; intro a S
                    refine st_y S rfl rfl rfl (y_loadAgg (cs := [_, _, _, _, _, _]) S (by kernel_rfl) rfl rfl (M.cellsAt (k := 6) 0 rfl rfl)) ?_; clear S a; intro a S
                    refine st_lit (ps := [(0, (Operand.tmp 91))]) (e := 33) (sz := 6) (zl := [.int .i64 0, .int .i64 0, .int .i64 0, .int .i64 0, .int .u32 0, .slice none 0 0]) (cs := [_, _, _, _, _, _]) S M rfl rfl (by kernel_rfl) rfl rfl ?_; clear S M a; intro a w10 bD S M hB
                    refine st_append (e := 33) (sz := 6) (by_ := 64) (zc := [.int .i64 0, .int .i64 0, .int .i64 0, .int .i64 0, .int .u32 0, .slice none 0 0]) S M 4 rfl rfl (by kernel_rfl) rfl (by decide) rfl rfl rfl (Rd.of_blk (sz := 6) (xs := f.cells (.slice adR ld.length cpR)) (M.blk 0 rfl) rfl (Nat.le_refl _) (by unfold maxLen; omega) rfl) (rfl) (by omega) (by unfold maxLen; omega) ?_; clear S M a; intro a w11 vA loA hiA S M
                    obtain ⟨vB, hvB⟩ : ∃ x, x = vA := ⟨_, rfl⟩
                    subst vA
                    obtain ⟨loB, hloB⟩ : ∃ x, x = loA := ⟨_, rfl⟩
                    subst loA
                    obtain ⟨hiB, hhiB⟩ : ∃ x, x = hiA := ⟨_, rfl⟩
                    subst hiA
                    refine st_y S rfl rfl rfl (y_assign S rfl) ?_; clear S a; intro a S
                    refine wpList_nil ?_
                    replace S := S.sub [(0, _), (3, _), (4, _), (5, _), (13, _), (16, _), (54, _), (17, _), (18, _), (19, _), (20, _), (89, _), (15, _)] rfl
                    refine then_normal ?_
                    refine wp_seq ?_
                    -- region 14 law.go:68
                    refine wp_region_lit ?_
                    refine st_y S rfl rfl rfl (y_move S rfl) ?_; clear S a; intro a S
                    (first | refine st_y S rfl rfl rfl (y_remN S rfl rfl (by omega)) ?_ | refine st_y S rfl rfl rfl (y_remZ S rfl rfl (by omega)) ?_); clear S a; intro a S
                    have ht : -512 < at_.tmod 512 ∧ at_.tmod 512 < 512 := ⟨Int.lt_tmod_of_pos at_ (by omega), Int.tmod_lt_of_pos at_ (by omega)⟩
                    generalize at_.tmod 512 = z at *
                    (first | refine st_y S rfl rfl rfl (y_addN S rfl rfl (by omega)) ?_ | refine st_y S rfl rfl rfl (y_int S rfl rfl rfl) ?_); clear S a; intro a S
                    (first | refine st_y S rfl rfl rfl (y_remN S rfl rfl (by omega)) ?_ | refine st_y S rfl rfl rfl (y_remZ S rfl rfl (by omega)) ?_); clear S a; intro a S
                    obtain ⟨K, hKe, hK512⟩ : ∃ K : Nat, (z + 512) % 512 = (K : Int) ∧ K < 512 := ⟨((z + 512) % 512).toNat, by omega, by omega⟩
                    rw [hKe] at S
                    refine st_y S rfl rfl rfl (y_assign S rfl) ?_; clear S a; intro a S
                    refine wpList_nil ?_
                    replace S := S.sub [(0, _), (3, _), (4, _), (5, _), (13, _), (16, _), (54, _), (17, _), (18, _), (19, _), (20, _), (89, _), (15, _), (21, _)] rfl
                    refine then_normal ?_
                    refine wp_seq ?_
                    -- region 15 law.go:69
                    refine wp_region_lit ?_
                    refine st_y S rfl rfl rfl (y_assign S rfl) ?_; clear S a; intro a S
                    refine wpList_nil ?_
                    replace S := S.sub [(0, _), (3, _), (4, _), (5, _), (13, _), (16, _), (54, _), (17, _), (18, _), (19, _), (20, _), (89, _), (15, _), (21, _), (22, _)] rfl
                    refine then_normal ?_
                    refine wp_seq ?_
                    -- region 16 law.go:70
                    refine wp_region_lit ?_
                    refine st_y S rfl rfl rfl (y_move S rfl) ?_; clear S a; intro a S
                    refine st_y S rfl rfl rfl (y_move S rfl) ?_; clear S a; intro a S
                    replace M := M.rowNil 5 1
                    refine st_append (e := 5) (sz := 1) (by_ := 1) (zc := [.int .u8 0]) S M 0 rfl rfl (by kernel_rfl) rfl (by decide) rfl rfl rfl (M.readRow 5 rfl hm64) (allOne_bcells _) (by omega) (by unfold maxLen; omega) ?_; clear S M a; intro a w12 vA loA hiA S M
                    rw [Nat.zero_add, List.nil_append] at M
                    obtain ⟨g, cp, more, hvE, hc1, hc2, hc3, M1⟩ := M.ofRow (by omega)
                    subst hvE
                    clear M
                    have M := M1
                    clear M1
                    refine st_y S rfl rfl rfl (y_assign S rfl) ?_; clear S a; intro a S
                    refine wpList_nil ?_
                    replace S := S.sub [(0, _), (3, _), (4, _), (5, _), (13, _), (16, _), (54, _), (17, _), (18, _), (19, _), (20, _), (89, _), (15, _), (21, _), (22, _)] rfl
                    refine then_normal ?_
                    refine wp_seq ?_
                    -- region 17 law.go:71
                    refine wp_region_lit ?_
                    refine st_y S rfl rfl rfl (y_move S rfl) ?_; clear S a; intro a S
                    refine st_y S rfl rfl rfl (y_or32 (q := 1#32) S rfl rfl) ?_; clear S a; intro a S
                    refine st_y S rfl rfl rfl (y_assign S rfl) ?_; clear S a; intro a S
                    refine wpList_nil ?_
                    replace S := S.sub [(0, _), (3, _), (4, _), (5, _), (13, _), (16, _), (54, _), (17, _), (18, _), (19, _), (20, _), (89, _), (15, _), (21, _), (22, _), (23, _)] rfl
                    refine then_normal ?_
                    refine wp_seq ?_
                    refine wp_seq ?_
                    -- region 18 law.go:72
                    refine wp_region_lit ?_
                    refine st_y S rfl rfl rfl (y_assign S rfl) ?_; clear S a; intro a S
                    refine wpList_nil ?_
                    replace S := S.sub [(0, _), (3, _), (4, _), (5, _), (13, _), (16, _), (54, _), (17, _), (18, _), (19, _), (20, _), (89, _), (15, _), (21, _), (22, _), (23, _), (24, _)] rfl
                    refine then_normal ?_
                    refine wp_block ?_
                    refine wp_loop_g (fun m a w' => ∃ (j : Nat) (bd : List UInt8) (W : BitVec 32), j ≤ 32 ∧ m = 32 - j ∧ Sees 183 a [(0, v), (3, .int .u32 (bits.toNat : Int)), (4, .int .i64 at_), (5, rv), (13, v1), (15, vB), (16, .int .i64 (k : Int)), (21, .int .i64 (K : Int)), (22, .slice (some ⟨g, 0, none⟩) 64 cp), (23, .int .u32 ((bits ||| 1#32).toNat : Int)), (24, .int .i64 (j : Int))] ∧ Mem w w' (.blk g (bcells bd ++ more).toArray 5 :: rowE loB hiB 33 6 vB (k + 1) (cs ++ f.cells (.slice adR ld.length cpR)) :: .own lo1 hi1 (fun w => FrsC cs1 lo1 hi1 w v1 (cutR bs seq inc)) :: rowE loR hiR 5 1 (.slice adR ld.length cpR) ld.length (bcells ld) :: es) ∧ bd.length = 64 ∧ refRun 4294967295#32 bd = refRun 4294967295#32 (bytesF f ld) ^^^ stepN (512 - K) W ∧ (j = 0 → W = 0#32) ∧ (0 < j → W.getLsbD 0 = true)) (32) ?_ ?_
                    · skip
                      replace M := M.drop 2
                      simp only [List.eraseIdx_cons_succ, List.eraseIdx_cons_zero] at M
                      replace M := M.drop 2
                      simp only [List.eraseIdx_cons_succ, List.eraseIdx_cons_zero] at M
                      replace M := M.drop 3
                      simp only [List.eraseIdx_cons_succ, List.eraseIdx_cons_zero] at M
                      replace M := M.front 2 rfl
                      simp only [List.eraseIdx_cons_succ, List.eraseIdx_cons_zero] at M
                      replace M := M.front 3 rfl
                      simp only [List.eraseIdx_cons_succ, List.eraseIdx_cons_zero] at M
                      replace M := M.front 3 rfl
                      simp only [List.eraseIdx_cons_succ, List.eraseIdx_cons_zero] at M
                      replace M := M.front 3 rfl
                      simp only [List.eraseIdx_cons_succ, List.eraseIdx_cons_zero] at M
                      rw [hl64] at S hc1
                      exact ⟨0, bytesF f ld, 0#32, Nat.zero_le _, rfl, S.sub _ rfl, M, hl64, by rw [show stepN (512 - K) 0#32 = 0#32 from stepN_of_zero _]; simp, fun _ => rfl, fun h => absurd h (by omega)⟩
                    · clear S M a; intro m a wl
                      rintro ⟨j, bd, W, hj, rfl, S, M, hbl, hrun, hW0, hWp⟩
                      refine wp_seq ?_
                      refine wp_seq ?_
                      -- region 19 law.go:72
                      refine wp_region_lit ?_
                      refine st_y S rfl rfl rfl (y_move S rfl) ?_; clear S a; intro a S
                      refine st_y S rfl rfl rfl (y_int S rfl rfl rfl) ?_; clear S a; intro a S
                      refine st_y S rfl rfl rfl (y_move S rfl) ?_; clear S a; intro a S
                      refine st_split (t := 105) S rfl ?_ ?_
                      · clear S; intro h105 S
                        first | replace h105 := nrmA h105 | replace h105 := nrmB h105 | skip
                        first | replace h105 := nrm1 h105 | replace h105 := nrm2 h105 | replace h105 := nrm3 h105 | replace h105 := nrm4 h105 | replace h105 := nrm5 h105 | replace h105 := nrm6 h105 | replace h105 := of_decide_eq_true h105 | replace h105 := of_decide_eq_false h105 | skip
                        refine st_y S rfl rfl rfl (y_move S rfl) ?_; clear S a; intro a S
                        refine st_y S rfl rfl rfl (y_move S rfl) ?_; clear S a; intro a S
                        (first | refine st_y S rfl rfl rfl (y_addN S rfl rfl (by omega)) ?_ | refine st_y S rfl rfl rfl (y_int S rfl rfl rfl) ?_); clear S a; intro a S
                        refine st_y S rfl rfl rfl (y_int S rfl rfl rfl) ?_; clear S a; intro a S
                        refine st_y S rfl rfl rfl (y_pickT S rfl rfl) ?_; clear S a; intro a S
                        refine wpList_nil ?_
                        replace S := S.sub [(0, _), (3, _), (4, _), (5, _), (13, _), (15, _), (16, _), (21, _), (22, _), (23, _), (24, _), (110, _)] rfl
                        refine then_normal ?_
                        refine st_split (t := 110) S rfl ?_ ?_
                        · clear S; intro h110 S
                          refine st_condT S rfl ?_
                          refine wp_skip ?_
                          refine then_normal ?_
                          refine wp_seq ?_
                          refine wp_block ?_
                          refine wp_seq ?_
                          -- region 21 law.go:73
                          refine wp_region_lit ?_
                          have hkj0 : (K : Int) + (j : Int) < 512 := of_decide_eq_true h110
                          refine st_y S rfl rfl rfl (y_move S rfl) ?_; clear S a; intro a S
                          refine st_y S rfl rfl rfl (y_move S rfl) ?_; clear S a; intro a S
                          refine st_y S rfl rfl rfl (y_shr32 S rfl rfl) ?_; clear S a; intro a S
                          refine st_y S rfl rfl rfl (y_and32 (q := 1#32) S rfl rfl) ?_; clear S a; intro a S
                          refine st_y S rfl rfl rfl (y_eql32 (q := 1#32) S rfl rfl) ?_; clear S a; intro a S
                          refine wpList_nil ?_
                          replace S := S.sub [(0, _), (3, _), (4, _), (5, _), (13, _), (15, _), (16, _), (21, _), (22, _), (23, _), (24, _), (110, _), (117, _)] rfl
                          refine then_normal ?_
                          refine st_split (t := 117) S rfl ?_ ?_
                          · clear S; intro h117 S
                            first | replace h117 := nrmA h117 | replace h117 := nrmB h117 | skip
                            first | replace h117 := nrm1 h117 | replace h117 := nrm2 h117 | replace h117 := nrm3 h117 | replace h117 := nrm4 h117 | replace h117 := nrm5 h117 | replace h117 := nrm6 h117 | replace h117 := of_decide_eq_true h117 | replace h117 := of_decide_eq_false h117 | skip
                            refine st_condT S rfl ?_
                            -- region 22 law.go:74
                            refine wp_regionK [19] #[false, false, false, false, false, false, false, false, false, false, false, false, false, false, false, false, false, false, false, false] rfl M (by kernel_rfl) ?_; clear M; intro w13 M
                            have hkj : K + j < 512 := by omega
                            obtain ⟨b, hb⟩ : ∃ b, bd[(K + j) / 8]? = some b := ⟨_, List.getElem?_eq_getElem (by omega)⟩
                            have hix : (((K : Int) + (j : Int)) / 8).toNat = (K + j) / 8 := by omega
                            have hrx : (((K : Int) + (j : Int)) % 8).toNat = (K + j) % 8 := by omega
                            have hb' : (bcells bd ++ more).toArray[(((K : Int) + (j : Int)) / 8).toNat]? = some (.int .u8 (b.toNat : Int)) := by
                              rw [hix, List.getElem?_toArray, List.getElem?_append_left (by rw [bcells_length]; omega)]
                              unfold bcells; rw [List.getElem?_map, hb]; rfl
                            refine k_read (listed' := #[true, false, false, false, false, false, false, false, false, false, false, false, false, false, false, false, false, false, false, false]) 0 S rfl rfl rfl rfl (by kernel_rfl) rfl (fun _ d _ _ _ h => by cases d <;> exact h) (fun w hW => have M := M.grow hW; y_move S rfl) ?_; clear S a; intro a S
                            refine k_read (listed' := #[true, true, false, false, false, false, false, false, false, false, false, false, false, false, false, false, false, false, false, false]) 1 S rfl rfl rfl rfl (by kernel_rfl) rfl (fun _ d _ _ _ h => by cases d <;> exact h) (fun w hW => have M := M.grow hW; y_move S rfl) ?_; clear S a; intro a S
                            refine k_read (listed' := #[true, true, true, false, false, false, false, false, false, false, false, false, false, false, false, false, false, false, false, false]) 2 S rfl rfl rfl rfl (by kernel_rfl) rfl (fun _ d _ _ _ h => by cases d <;> exact h) (fun w hW => have M := M.grow hW; y_move S rfl) ?_; clear S a; intro a S
                            (first | refine k_read (listed' := #[true, true, true, true, false, false, false, false, false, false, false, false, false, false, false, false, false, false, false, false]) 3 S rfl rfl rfl rfl (by kernel_rfl) rfl (fun _ d _ _ _ h => by cases d <;> exact h) (fun w hW => have M := M.grow hW; y_addN S rfl rfl (by omega)) ?_ | refine k_read (listed' := #[true, true, true, true, false, false, false, false, false, false, false, false, false, false, false, false, false, false, false, false]) 3 S rfl rfl rfl rfl (by kernel_rfl) rfl (fun _ d _ _ _ h => by cases d <;> exact h) (fun w hW => have M := M.grow hW; y_int S rfl rfl rfl) ?_); clear S a; intro a S
                            refine k_read (listed' := #[true, true, true, true, true, false, false, false, false, false, false, false, false, false, false, false, false, false, false, false]) 4 S rfl rfl rfl rfl (by kernel_rfl) rfl (fun _ d _ _ _ h => by cases d <;> exact h) (fun w hW => have M := M.grow hW; y_quoN S rfl rfl (by omega)) ?_; clear S a; intro a S
                            refine k_read (listed' := #[true, true, true, true, true, true, false, false, false, false, false, false, false, false, false, false, false, false, false, false]) 5 S rfl rfl rfl rfl (by kernel_rfl) rfl (fun _ d _ _ _ h => by cases d <;> exact h) (fun w hW => have M := M.grow hW; y_move S rfl) ?_; clear S a; intro a S
                            refine k_read (listed' := #[true, true, true, true, true, true, true, false, false, false, false, false, false, false, false, false, false, false, false, false]) 6 S rfl rfl rfl rfl (by kernel_rfl) rfl (fun _ d _ _ _ h => by cases d <;> exact h) (fun w hW => have M := M.grow hW; y_move S rfl) ?_; clear S a; intro a S
                            refine k_read (listed' := #[true, true, true, true, true, true, true, true, false, false, false, false, false, false, false, false, false, false, false, false]) 7 S rfl rfl rfl rfl (by kernel_rfl) rfl (fun _ d _ _ _ h => by cases d <;> exact h) (fun w hW => have M := M.grow hW; y_move S rfl) ?_; clear S a; intro a S
                            (first | refine k_read (listed' := #[true, true, true, true, true, true, true, true, true, false, false, false, false, false, false, false, false, false, false, false]) 8 S rfl rfl rfl rfl (by kernel_rfl) rfl (fun _ d _ _ _ h => by cases d <;> exact h) (fun w hW => have M := M.grow hW; y_addN S rfl rfl (by omega)) ?_ | refine k_read (listed' := #[true, true, true, true, true, true, true, true, true, false, false, false, false, false, false, false, false, false, false, false]) 8 S rfl rfl rfl rfl (by kernel_rfl) rfl (fun _ d _ _ _ h => by cases d <;> exact h) (fun w hW => have M := M.grow hW; y_int S rfl rfl rfl) ?_); clear S a; intro a S
                            refine k_read (listed' := #[true, true, true, true, true, true, true, true, true, true, false, false, false, false, false, false, false, false, false, false]) 9 S rfl rfl rfl rfl (by kernel_rfl) rfl (fun _ d _ _ _ h => by cases d <;> exact h) (fun w hW => have M := M.grow hW; y_quoN S rfl rfl (by omega)) ?_; clear S a; intro a S
                            refine k_read (listed' := #[true, true, true, true, true, true, true, true, true, true, true, false, false, false, false, false, false, false, false, false]) 10 S rfl rfl rfl rfl (by kernel_rfl) rfl (fun _ d _ _ _ h => by cases d <;> exact h) (fun w hW => have M := M.grow hW; y_indexS (e := 5) (sz := 1) S (by kernel_rfl) rfl rfl (by first | omega | (simp; done) | (simp; omega))) ?_; clear S a; intro a S
                            try simp only [Int.toNat_natCast, Nat.mul_one, Nat.zero_add] at S
                            refine k_read (listed' := #[true, true, true, true, true, true, true, true, true, true, true, true, false, false, false, false, false, false, false, false]) 11 S rfl rfl rfl rfl (by kernel_rfl) rfl (fun _ d _ _ _ h => by cases d <;> exact h) (fun w hW => have M := M.grow hW; y_load S (by kernel_rfl) rfl (M.cell 0 rfl (hb'))) ?_; clear S a; intro a S
                            refine k_read (listed' := #[true, true, true, true, true, true, true, true, true, true, true, true, true, false, false, false, false, false, false, false]) 12 S rfl rfl rfl rfl (by kernel_rfl) rfl (fun _ d _ _ _ h => by cases d <;> exact h) (fun w hW => have M := M.grow hW; y_move S rfl) ?_; clear S a; intro a S
                            refine k_read (listed' := #[true, true, true, true, true, true, true, true, true, true, true, true, true, true, false, false, false, false, false, false]) 13 S rfl rfl rfl rfl (by kernel_rfl) rfl (fun _ d _ _ _ h => by cases d <;> exact h) (fun w hW => have M := M.grow hW; y_move S rfl) ?_; clear S a; intro a S
                            (first | refine k_read (listed' := #[true, true, true, true, true, true, true, true, true, true, true, true, true, true, true, false, false, false, false, false]) 14 S rfl rfl rfl rfl (by kernel_rfl) rfl (fun _ d _ _ _ h => by cases d <;> exact h) (fun w hW => have M := M.grow hW; y_addN S rfl rfl (by omega)) ?_ | refine k_read (listed' := #[true, true, true, true, true, true, true, true, true, true, true, true, true, true, true, false, false, false, false, false]) 14 S rfl rfl rfl rfl (by kernel_rfl) rfl (fun _ d _ _ _ h => by cases d <;> exact h) (fun w hW => have M := M.grow hW; y_int S rfl rfl rfl) ?_); clear S a; intro a S
                            (first | refine k_read (listed' := #[true, true, true, true, true, true, true, true, true, true, true, true, true, true, true, true, false, false, false, false]) 15 S rfl rfl rfl rfl (by kernel_rfl) rfl (fun _ d _ _ _ h => by cases d <;> exact h) (fun w hW => have M := M.grow hW; y_remN S rfl rfl (by omega)) ?_ | refine k_read (listed' := #[true, true, true, true, true, true, true, true, true, true, true, true, true, true, true, true, false, false, false, false]) 15 S rfl rfl rfl rfl (by kernel_rfl) rfl (fun _ d _ _ _ h => by cases d <;> exact h) (fun w hW => have M := M.grow hW; y_remZ S rfl rfl (by omega)) ?_); clear S a; intro a S
                            refine k_read (listed' := #[true, true, true, true, true, true, true, true, true, true, true, true, true, true, true, true, true, false, false, false]) 16 S rfl rfl rfl rfl (by kernel_rfl) rfl (fun _ d _ _ _ h => by cases d <;> exact h) (fun w hW => have M := M.grow hW; y_shl8 S rfl rfl (by omega)) ?_; clear S a; intro a S
                            refine k_read (listed' := #[true, true, true, true, true, true, true, true, true, true, true, true, true, true, true, true, true, true, false, false]) 17 S rfl rfl rfl rfl (by kernel_rfl) rfl (fun _ d _ _ _ h => by cases d <;> exact h) (fun w hW => have M := M.grow hW; y_xor8 S rfl rfl) ?_; clear S a; intro a S
                            refine k_read (listed' := #[true, true, true, true, true, true, true, true, true, true, true, true, true, true, true, true, true, true, true, false]) 18 S rfl rfl rfl rfl (by kernel_rfl) rfl (fun _ d _ _ _ h => by cases d <;> exact h) (fun w hW => have M := M.grow hW; y_indexS (e := 5) (sz := 1) S (by kernel_rfl) rfl rfl (by first | omega | (simp; done) | (simp; omega))) ?_; clear S a; intro a S
                            try simp only [Int.toNat_natCast, Nat.mul_one, Nat.zero_add] at S
                            refine k_one (listed' := #[true, true, true, true, true, true, true, true, true, true, true, true, true, true, true, true, true, true, true, true]) 19 rfl (by kernel_rfl) rfl ?_
                            refine st_store (sz := 1) (us := [_]) S M 0 rfl (by kernel_rfl) rfl rfl rfl rfl rfl rfl (by simp only [List.length_cons, List.length_nil, List.length_append, bcells_length]; omega) ?_; clear M; intro w14 M
                            simp only [List.set_cons_zero, List.set_cons_succ] at M
                            refine wpList_nil ?_; refine then_normal ?_; refine ⟨fun h => absurd h (by decide), ?_⟩
                            refine k_end (by kernel_rfl) ?_
                            replace S := S.sub [(0, _), (3, _), (4, _), (5, _), (13, _), (15, _), (16, _), (21, _), (22, _), (23, _), (24, _), (110, _), (117, _)] rfl
                            refine block_normal ?_
                            refine then_normal ?_
                            -- region 20 law.go:72
                            refine wp_region_lit ?_
                            refine st_y S rfl rfl rfl (y_move S rfl) ?_; clear S a; intro a S
                            (first | refine st_y S rfl rfl rfl (y_addN S rfl rfl (by omega)) ?_ | refine st_y S rfl rfl rfl (y_int S rfl rfl rfl) ?_); clear S a; intro a S
                            refine st_y S rfl rfl rfl (y_assign S rfl) ?_; clear S a; intro a S
                            refine wpList_nil ?_
                            replace S := S.sub [(0, _), (3, _), (4, _), (5, _), (13, _), (15, _), (16, _), (21, _), (22, _), (23, _), (110, _), (117, _), (24, _)] rfl
                            refine then_normal ?_
                            first
                              | (obtain ⟨hT1, hT2⟩ := turn_round hbl (by omega) hkj hb hrun hW0 hWp
                                 rw [hix, hrx, bcells_set bd more (by omega)] at M
                                 exact ⟨32 - (j + 1), by omega, j + 1, _, _, by omega, rfl, S.sub _ rfl, M, by rw [List.length_set]; exact hbl, hT1, fun h => absurd h (by omega), fun _ => hT2⟩)
                              | (have hj0 : 0 < j := by
                                   rcases Nat.eq_zero_or_pos j with rfl | h
                                   · exact absurd (turn_first bits) (by simpa using h117)
                                   · exact h
                                 exact ⟨32 - (j + 1), by omega, j + 1, bd, W, by omega, rfl, S.sub _ rfl, M, hbl, hrun, fun h => absurd h (by omega), fun _ => hWp hj0⟩)
                          · clear S; intro h117 S
                            first | replace h117 := nrmA h117 | replace h117 := nrmB h117 | skip
                            first | replace h117 := nrm1 h117 | replace h117 := nrm2 h117 | replace h117 := nrm3 h117 | replace h117 := nrm4 h117 | replace h117 := nrm5 h117 | replace h117 := nrm6 h117 | replace h117 := of_decide_eq_true h117 | replace h117 := of_decide_eq_false h117 | skip
                            refine st_condF S rfl ?_
                            refine wp_skip ?_
                            refine block_normal ?_
                            refine then_normal ?_
                            -- region 20 law.go:72
                            refine wp_region_lit ?_
                            refine st_y S rfl rfl rfl (y_move S rfl) ?_; clear S a; intro a S
                            (first | refine st_y S rfl rfl rfl (y_addN S rfl rfl (by omega)) ?_ | refine st_y S rfl rfl rfl (y_int S rfl rfl rfl) ?_); clear S a; intro a S
                            refine st_y S rfl rfl rfl (y_assign S rfl) ?_; clear S a; intro a S
                            refine wpList_nil ?_
                            replace S := S.sub [(0, _), (3, _), (4, _), (5, _), (13, _), (15, _), (16, _), (21, _), (22, _), (23, _), (110, _), (117, _), (24, _)] rfl
                            refine then_normal ?_
                            first
                              | (obtain ⟨hT1, hT2⟩ := turn_round hbl (by omega) hkj hb hrun hW0 hWp
                                 rw [hix, hrx, bcells_set bd more (by omega)] at M
                                 exact ⟨32 - (j + 1), by omega, j + 1, _, _, by omega, rfl, S.sub _ rfl, M, by rw [List.length_set]; exact hbl, hT1, fun h => absurd h (by omega), fun _ => hT2⟩)
                              | (have hj0 : 0 < j := by
                                   rcases Nat.eq_zero_or_pos j with rfl | h
                                   · exact absurd (turn_first bits) (by simpa using h117)
                                   · exact h
                                 exact ⟨32 - (j + 1), by omega, j + 1, bd, W, by omega, rfl, S.sub _ rfl, M, hbl, hrun, fun h => absurd h (by omega), fun _ => hWp hj0⟩)
                        · clear S; intro h110 S
                          refine st_condF S rfl ?_
                          refine wp_exit ?_
                          refine then_exit ?_
                          refine then_exit ?_
                          refine block_hit ?_
                          refine then_normal ?_
                          refine wp_seq ?_
                          -- region 23 law.go:77
                          refine wp_region_lit ?_
                          have hj0 : 0 < j := by
                            first
                              | (have hge : ¬ ((K : Int) + (j : Int) < 512) := of_decide_eq_false h110
                                 omega)
                              | omega
                          have hno : readF bd = none := readF_none (burst ⟨_, rfl⟩ hrun (hWp hj0))
                          have hbd : Bs 0 (wl).heap.size wl (.slice (some ⟨g, 0, none⟩) 64 cp) bd := by
                            have B := M.blk 0 rfl
                            have h1 := Rd.of_blk (sz := 1) (m := 64) (cap := cp) (xs := bcells bd) B (by rw [bcells_length, hbl]) (by omega) hc2 (by rw [List.toList_toArray, Nat.mul_one, ← hbl, ← bcells_length, List.take_left])
                            unfold Bs; rw [hbl]
                            exact h1.wide (Nat.zero_le _) B.lt
                          refine st_y S rfl rfl rfl (y_move S rfl) ?_; clear S a; intro a S
                          refine st_call (xs := [(Operand.tmp 138)]) S (enters_of Try.func15 (by decide) rfl) rfl rfl rfl (read_any _ bd _ hbd (by omega)) ?_
                          rintro _ w15 ⟨f', lv', E, rfl, hK, -, hN⟩; refine ⟨_, rfl, ?_⟩; clear S a; intro a S
                          obtain ⟨hf', hl', hE'⟩ := hN hno
                          subst f' lv' E
                          replace M := M.grow hK
                          refine st_y S rfl rfl rfl (y_move S rfl) ?_; clear S a; intro a S
                          refine st_y S rfl rfl rfl (y_extract S rfl rfl) ?_; clear S a; intro a S
                          refine st_y S rfl rfl rfl (y_extract S rfl rfl) ?_; clear S a; intro a S
                          refine st_alloc S M rfl rfl #[.int .i64 0, .int .i64 0, .int .i64 0, .int .i64 0, .int .u32 0, .slice none 0 0] (by kernel_rfl) ?_; clear S M a; intro a w16 bZ S M hB
                          refine st_store (sz := 6) (us := [_, _, _, _, _, _]) S M 0 rfl (by kernel_rfl) rfl rfl rfl rfl rfl rfl (by first | decide | (simp; done) | (simp; omega)) ?_; clear M; intro w17 M
                          simp only [putL, List.set_cons_zero, List.set_cons_succ, Nat.reduceAdd] at M
                          refine st_y S rfl rfl rfl (y_assign S rfl) ?_; clear S a; intro a S
                          refine wpList_nil ?_
                          replace S := S.sub [(0, _), (3, _), (4, _), (5, _), (13, _), (15, _), (16, _), (21, _), (22, _), (23, _), (24, _), (110, _), (26, _)] rfl
                          refine then_normal ?_
                          refine wp_seq ?_
                          -- region 24 law.go:78
                          refine wp_region_lit ?_
                          refine st_y S rfl rfl rfl (y_move S rfl) ?_; clear S a; intro a S
                          refine st_y S rfl rfl rfl (y_int S rfl rfl rfl) ?_; clear S a; intro a S
                          refine wpList_nil ?_
                          replace S := S.sub [(0, _), (3, _), (4, _), (5, _), (13, _), (15, _), (16, _), (21, _), (22, _), (23, _), (24, _), (110, _), (26, _), (143, _)] rfl
                          refine then_normal ?_
                          refine st_split (t := 143) S rfl ?_ ?_
                          · clear S; intro h143 S
                            first | replace h143 := nrmA h143 | replace h143 := nrmB h143 | skip
                            first | replace h143 := nrm1 h143 | replace h143 := nrm2 h143 | replace h143 := nrm3 h143 | replace h143 := nrm4 h143 | replace h143 := nrm5 h143 | replace h143 := nrm6 h143 | replace h143 := of_decide_eq_true h143 | replace h143 := of_decide_eq_false h143 | skip
                            exact absurd rfl h143
                          · clear S; intro h143 S
                            first | replace h143 := nrmA h143 | replace h143 := nrmB h143 | skip
                            first | replace h143 := nrm1 h143 | replace h143 := nrm2 h143 | replace h143 := nrm3 h143 | replace h143 := nrm4 h143 | replace h143 := nrm5 h143 | replace h143 := nrm6 h143 | replace h143 := of_decide_eq_true h143 | replace h143 := of_decide_eq_false h143 | skip
                            refine st_condF S rfl ?_
                            refine wp_skip ?_
                            refine block_normal ?_
                            refine then_normal ?_
                            -- region 8 law.go:61
                            refine wp_region_lit ?_
                            refine st_y S rfl rfl rfl (y_move S rfl) ?_; clear S a; intro a S
                            (first | refine st_y S rfl rfl rfl (y_addN S rfl rfl (by omega)) ?_ | refine st_y S rfl rfl rfl (y_int S rfl rfl rfl) ?_); clear S a; intro a S
                            refine st_y S rfl rfl rfl (y_assign S rfl) ?_; clear S a; intro a S
                            refine wpList_nil ?_
                            replace S := S.sub [(0, _), (3, _), (4, _), (5, _), (13, _), (15, _), (21, _), (22, _), (23, _), (24, _), (110, _), (26, _), (143, _), (16, _)] rfl
                            refine then_normal ?_
                            replace M := M.drop 0
                            simp only [List.eraseIdx_cons_succ, List.eraseIdx_cons_zero] at M
                            replace M := M.drop 0
                            simp only [List.eraseIdx_cons_succ, List.eraseIdx_cons_zero] at M
                            subst hlk
                            refine ⟨nOf bs.length - (lvs.length + 1), by omega, lvs.length + 1, _, _, _, _, lvs ++ [.slice adR ld.length cpR], _, by omega, rfl, S.sub _ rfl, M, by simp, by rw [List.length_append, hcl]; simp; omega, ?_⟩
                            have := hbk.more (lv := .slice adR ld.length cpR) (lo := loR) (hi := hiR) hcl
                            rw [hfr] at this
                            exact this
                      · clear S; intro h105 S
                        first | replace h105 := nrmA h105 | replace h105 := nrmB h105 | skip
                        first | replace h105 := nrm1 h105 | replace h105 := nrm2 h105 | replace h105 := nrm3 h105 | replace h105 := nrm4 h105 | replace h105 := nrm5 h105 | replace h105 := nrm6 h105 | replace h105 := of_decide_eq_true h105 | replace h105 := of_decide_eq_false h105 | skip
                        refine st_no S rfl rfl rfl ?_; clear S a; intro a S
                        refine st_no S rfl rfl rfl ?_; clear S a; intro a S
                        refine st_no S rfl rfl rfl ?_; clear S a; intro a S
                        refine st_no S rfl rfl rfl ?_; clear S a; intro a S
                        refine st_y S rfl rfl rfl (y_pickF S rfl rfl) ?_; clear S a; intro a S
                        refine wpList_nil ?_
                        replace S := S.sub [(0, _), (3, _), (4, _), (5, _), (13, _), (15, _), (16, _), (21, _), (22, _), (23, _), (24, _), (110, _)] rfl
                        refine then_normal ?_
                        refine st_condF S rfl ?_
                        refine wp_exit ?_
                        refine then_exit ?_
                        refine then_exit ?_
                        refine block_hit ?_
                        refine then_normal ?_
                        refine wp_seq ?_
                        -- region 23 law.go:77
                        refine wp_region_lit ?_
                        have hj0 : 0 < j := by
                          first
                            | (have hge : ¬ ((K : Int) + (j : Int) < 512) := of_decide_eq_false h110
                               omega)
                            | omega
                        have hno : readF bd = none := readF_none (burst ⟨_, rfl⟩ hrun (hWp hj0))
                        have hbd : Bs 0 (wl).heap.size wl (.slice (some ⟨g, 0, none⟩) 64 cp) bd := by
                          have B := M.blk 0 rfl
                          have h1 := Rd.of_blk (sz := 1) (m := 64) (cap := cp) (xs := bcells bd) B (by rw [bcells_length, hbl]) (by omega) hc2 (by rw [List.toList_toArray, Nat.mul_one, ← hbl, ← bcells_length, List.take_left])
                          unfold Bs; rw [hbl]
                          exact h1.wide (Nat.zero_le _) B.lt
                        refine st_y S rfl rfl rfl (y_move S rfl) ?_; clear S a; intro a S
                        refine st_call (xs := [(Operand.tmp 138)]) S (enters_of Try.func15 (by decide) rfl) rfl rfl rfl (read_any _ bd _ hbd (by omega)) ?_
                        rintro _ w18 ⟨f', lv', E, rfl, hK, -, hN⟩; refine ⟨_, rfl, ?_⟩; clear S a; intro a S
                        obtain ⟨hf', hl', hE'⟩ := hN hno
                        subst f' lv' E
                        replace M := M.grow hK
                        refine st_y S rfl rfl rfl (y_move S rfl) ?_; clear S a; intro a S
                        refine st_y S rfl rfl rfl (y_extract S rfl rfl) ?_; clear S a; intro a S
                        refine st_y S rfl rfl rfl (y_extract S rfl rfl) ?_; clear S a; intro a S
                        refine st_alloc S M rfl rfl #[.int .i64 0, .int .i64 0, .int .i64 0, .int .i64 0, .int .u32 0, .slice none 0 0] (by kernel_rfl) ?_; clear S M a; intro a w19 bZ S M hB
                        refine st_store (sz := 6) (us := [_, _, _, _, _, _]) S M 0 rfl (by kernel_rfl) rfl rfl rfl rfl rfl rfl (by first | decide | (simp; done) | (simp; omega)) ?_; clear M; intro w20 M
                        simp only [putL, List.set_cons_zero, List.set_cons_succ, Nat.reduceAdd] at M
                        refine st_y S rfl rfl rfl (y_assign S rfl) ?_; clear S a; intro a S
                        refine wpList_nil ?_
                        replace S := S.sub [(0, _), (3, _), (4, _), (5, _), (13, _), (15, _), (16, _), (21, _), (22, _), (23, _), (24, _), (110, _), (26, _)] rfl
                        refine then_normal ?_
                        refine wp_seq ?_
                        -- region 24 law.go:78
                        refine wp_region_lit ?_
                        refine st_y S rfl rfl rfl (y_move S rfl) ?_; clear S a; intro a S
                        refine st_y S rfl rfl rfl (y_int S rfl rfl rfl) ?_; clear S a; intro a S
                        refine wpList_nil ?_
                        replace S := S.sub [(0, _), (3, _), (4, _), (5, _), (13, _), (15, _), (16, _), (21, _), (22, _), (23, _), (24, _), (110, _), (26, _), (143, _)] rfl
                        refine then_normal ?_
                        refine st_split (t := 143) S rfl ?_ ?_
                        · clear S; intro h143 S
                          first | replace h143 := nrmA h143 | replace h143 := nrmB h143 | skip
                          first | replace h143 := nrm1 h143 | replace h143 := nrm2 h143 | replace h143 := nrm3 h143 | replace h143 := nrm4 h143 | replace h143 := nrm5 h143 | replace h143 := nrm6 h143 | replace h143 := of_decide_eq_true h143 | replace h143 := of_decide_eq_false h143 | skip
                          exact absurd rfl h143
                        · clear S; intro h143 S
                          first | replace h143 := nrmA h143 | replace h143 := nrmB h143 | skip
                          first | replace h143 := nrm1 h143 | replace h143 := nrm2 h143 | replace h143 := nrm3 h143 | replace h143 := nrm4 h143 | replace h143 := nrm5 h143 | replace h143 := nrm6 h143 | replace h143 := of_decide_eq_true h143 | replace h143 := of_decide_eq_false h143 | skip
                          refine st_condF S rfl ?_
                          refine wp_skip ?_
                          refine block_normal ?_
                          refine then_normal ?_
                          -- region 8 law.go:61
                          refine wp_region_lit ?_
                          refine st_y S rfl rfl rfl (y_move S rfl) ?_; clear S a; intro a S
                          (first | refine st_y S rfl rfl rfl (y_addN S rfl rfl (by omega)) ?_ | refine st_y S rfl rfl rfl (y_int S rfl rfl rfl) ?_); clear S a; intro a S
                          refine st_y S rfl rfl rfl (y_assign S rfl) ?_; clear S a; intro a S
                          refine wpList_nil ?_
                          replace S := S.sub [(0, _), (3, _), (4, _), (5, _), (13, _), (15, _), (21, _), (22, _), (23, _), (24, _), (110, _), (26, _), (143, _), (16, _)] rfl
                          refine then_normal ?_
                          replace M := M.drop 0
                          simp only [List.eraseIdx_cons_succ, List.eraseIdx_cons_zero] at M
                          replace M := M.drop 0
                          simp only [List.eraseIdx_cons_succ, List.eraseIdx_cons_zero] at M
                          subst hlk
                          refine ⟨nOf bs.length - (lvs.length + 1), by omega, lvs.length + 1, _, _, _, _, lvs ++ [.slice adR ld.length cpR], _, by omega, rfl, S.sub _ rfl, M, by simp, by rw [List.length_append, hcl]; simp; omega, ?_⟩
                          have := hbk.more (lv := .slice adR ld.length cpR) (lo := loR) (hi := hiR) hcl
                          rw [hfr] at this
                          exact this
          · clear S; intro h54 S
            first | replace h54 := nrmA h54 | replace h54 := nrmB h54 | skip
            first | replace h54 := nrm1 h54 | replace h54 := nrm2 h54 | replace h54 := nrm3 h54 | replace h54 := nrm4 h54 | replace h54 := nrm5 h54 | replace h54 := nrm6 h54 | replace h54 := of_decide_eq_true h54 | replace h54 := of_decide_eq_false h54 | skip
            refine st_condF S rfl ?_
            refine wp_exit ?_
            refine then_exit ?_
            refine then_exit ?_
            refine block_hit ?_
            refine then_normal ?_
            refine wp_seq ?_
            -- region 26 law.go:82
            refine wp_region_lit ?_
            obtain rfl : k = nOf bs.length := by omega
            have hFr := hbk.frs hok hlk hn2 M
            obtain ⟨hjo, hjb⟩ := join_cut hok
            have hall : ∀ x ∈ cutR bs seq inc, x.2.length ≤ 1000 ∧ -9223372036854775808 ≤ x.1.seq ∧ x.1.seq ≤ 9223372036854775807 := fun x hx => by
              obtain ⟨i, hi'⟩ := List.getElem?_of_mem hx
              have hlt : i < nOf bs.length := by rw [← hlen]; exact (List.getElem?_eq_some_iff.1 hi').1
              rw [cutR_get hok hlt] at hi'
              cases hi'
              have := frOf_may hok hlt
              simp only [Fr.may, decide_eq_true_eq] at this
              omega
            have hall1 := fun x hx => (hall x hx).1
            have hall2 := fun x hx => (hall x hx).2
            have hb90 : bs.length ≤ 90 := hok.2.2.2.1
            refine st_y S rfl rfl rfl (y_move S rfl) ?_; clear S a; intro a S
            refine st_call (xs := [(Operand.tmp 145)]) S (enters_of Try.func10 (by decide) rfl) rfl rfl rfl (join_any _ cs (cutR bs seq inc) _ hFr hall1 hall2) ?_
            rintro _ w21 ⟨v27, rfl, hK, hF, -⟩; refine ⟨_, rfl, ?_⟩; clear S a; intro a S
            replace hF := hF hjo
            rw [hjb] at hF
            rw [show joinE (cutR bs seq inc) = 0 from by unfold joinE; rw [if_pos hjo]] at S
            obtain ⟨loJ, hiJ, -, M⟩ := M.pushFresh hF
            refine st_y S rfl rfl rfl (y_move S rfl) ?_; clear S a; intro a S
            refine st_y S rfl rfl rfl (y_extract S rfl rfl) ?_; clear S a; intro a S
            refine st_y S rfl rfl rfl (y_extract S rfl rfl) ?_; clear S a; intro a S
            refine st_y S rfl rfl rfl (y_assign S rfl) ?_; clear S a; intro a S
            refine st_y S rfl rfl rfl (y_assign S rfl) ?_; clear S a; intro a S
            refine wpList_nil ?_
            replace S := S.sub [(0, _), (3, _), (4, _), (5, _), (13, _), (15, _), (16, _), (54, _), (27, _), (28, _)] rfl
            refine then_normal ?_
            refine wp_seq ?_
            -- region 27 law.go:83
            refine wp_region_lit ?_
            refine st_y S rfl rfl rfl (y_move S rfl) ?_; clear S a; intro a S
            refine st_y S rfl rfl rfl (y_int S rfl rfl rfl) ?_; clear S a; intro a S
            refine st_y S rfl rfl rfl (y_move S rfl) ?_; clear S a; intro a S
            refine st_split (t := 151) S rfl ?_ ?_
            · clear S; intro h151 S
              first | replace h151 := nrmA h151 | replace h151 := nrmB h151 | skip
              first | replace h151 := nrm1 h151 | replace h151 := nrm2 h151 | replace h151 := nrm3 h151 | replace h151 := nrm4 h151 | replace h151 := nrm5 h151 | replace h151 := nrm6 h151 | replace h151 := of_decide_eq_true h151 | replace h151 := of_decide_eq_false h151 | skip
              exact absurd rfl h151
            · clear S; intro h151 S
              first | replace h151 := nrmA h151 | replace h151 := nrmB h151 | skip
              first | replace h151 := nrm1 h151 | replace h151 := nrm2 h151 | replace h151 := nrm3 h151 | replace h151 := nrm4 h151 | replace h151 := nrm5 h151 | replace h151 := nrm6 h151 | replace h151 := of_decide_eq_true h151 | replace h151 := of_decide_eq_false h151 | skip
              refine st_y S rfl rfl rfl (y_move S rfl) ?_; clear S a; intro a S
              refine st_y S rfl rfl rfl (y_bytesStr (e := 5) S rfl (by kernel_rfl) (by kernel_rfl) (by kernel_rfl) (M.readRow 0 rfl (by unfold maxLen; omega))) ?_; clear S a; intro a S
              refine st_y S rfl rfl rfl (y_move S rfl) ?_; clear S a; intro a S
              refine st_y S rfl rfl rfl (y_bytesStr (e := 5) S rfl (by kernel_rfl) (by kernel_rfl) (by kernel_rfl) (M.arg hv)) ?_; clear S a; intro a S
              refine st_y S rfl rfl rfl (y_neqStr S rfl rfl) ?_; clear S a; intro a S
              refine st_y S rfl rfl rfl (y_pickF S rfl rfl) ?_; clear S a; intro a S
              refine wpList_nil ?_
              replace S := S.sub [(0, _), (3, _), (4, _), (5, _), (13, _), (15, _), (16, _), (54, _), (27, _), (28, _), (157, _)] rfl
              refine then_normal ?_
              refine st_split (t := 157) S rfl ?_ ?_
              · clear S; intro h157 S
                first | replace h157 := nrmA h157 | replace h157 := nrmB h157 | skip
                first | replace h157 := nrm1 h157 | replace h157 := nrm2 h157 | replace h157 := nrm3 h157 | replace h157 := nrm4 h157 | replace h157 := nrm5 h157 | replace h157 := nrm6 h157 | replace h157 := of_decide_eq_true h157 | replace h157 := of_decide_eq_false h157 | skip
                simp at h157
              · clear S; intro h157 S
                first | replace h157 := nrmA h157 | replace h157 := nrmB h157 | skip
                first | replace h157 := nrm1 h157 | replace h157 := nrm2 h157 | replace h157 := nrm3 h157 | replace h157 := nrm4 h157 | replace h157 := nrm5 h157 | replace h157 := nrm6 h157 | replace h157 := of_decide_eq_true h157 | replace h157 := of_decide_eq_false h157 | skip
                refine st_condF S rfl ?_
                refine wp_skip ?_
                refine then_normal ?_
                refine wp_seq ?_
                -- region 29 law.go:87
                refine wp_region_lit ?_
                refine st_y S rfl rfl rfl (y_move S rfl) ?_; clear S a; intro a S
                refine st_call (xs := [(Operand.tmp 159)]) S (enters_of Try.func15 (by decide) rfl) rfl rfl rfl (read_any rv raw _ (M.argW hr) (by omega)) ?_
                rintro e w22 hP
                obtain ⟨adX, cpX, loX, hiX, rfl, hK, M1⟩ := read_uni M hP
                refine ⟨_, rfl, ?_⟩; clear S a M; intro a S
                have M := M1
                clear M1 hP
                refine st_y S rfl rfl rfl (y_move S rfl) ?_; clear S a; intro a S
                refine st_y S rfl rfl rfl (y_extract S rfl rfl) ?_; clear S a; intro a S
                refine st_y S rfl rfl rfl (y_extract S rfl rfl) ?_; clear S a; intro a S
                refine st_alloc S M rfl rfl #[.int .i64 0, .int .i64 0, .int .i64 0, .int .i64 0, .int .u32 0, .slice none 0 0] (by kernel_rfl) ?_; clear S M a; intro a w23 bY S M hB
                refine st_store (sz := 6) (us := [_, _, _, _, _, _]) S M 0 rfl (by kernel_rfl) rfl rfl rfl rfl rfl rfl (by first | decide | (simp; done) | (simp; omega)) ?_; clear M; intro w24 M
                simp only [putL, List.set_cons_zero, List.set_cons_succ, Nat.reduceAdd] at M
                refine st_y S rfl rfl rfl (y_assign S rfl) ?_; clear S a; intro a S
                refine wpList_nil ?_
                replace S := S.sub [(0, _), (3, _), (4, _), (5, _), (13, _), (15, _), (16, _), (54, _), (27, _), (28, _), (157, _), (29, _), (30, _)] rfl
                refine then_normal ?_
                refine wp_seq ?_
                refine wp_seq ?_
                -- region 30 law.go:88
                refine wp_region_lit ?_
                refine st_y S rfl rfl rfl (y_move S rfl) ?_; clear S a; intro a S
                refine st_y S rfl rfl rfl (y_int S rfl rfl rfl) ?_; clear S a; intro a S
                refine wpList_nil ?_
                replace S := S.sub [(0, _), (3, _), (4, _), (5, _), (13, _), (15, _), (16, _), (54, _), (27, _), (28, _), (157, _), (29, _), (30, _), (164, _)] rfl
                refine then_normal ?_
                refine st_split (t := 164) S rfl ?_ ?_
                · clear S; intro h164 S
                  first | replace h164 := nrmA h164 | replace h164 := nrmB h164 | skip
                  first | replace h164 := nrm1 h164 | replace h164 := nrm2 h164 | replace h164 := nrm3 h164 | replace h164 := nrm4 h164 | replace h164 := nrm5 h164 | replace h164 := nrm6 h164 | replace h164 := of_decide_eq_true h164 | replace h164 := of_decide_eq_false h164 | skip
                  refine st_condT S rfl ?_
                  refine wp_seq ?_
                  -- region 31 law.go:89
                  refine wp_region_lit ?_
                  refine st_call (xs := []) S (enters_of Try.func7 (by decide) rfl) rfl rfl rfl (wakes04 _) ?_
                  rintro _ w25 ⟨rfl, hK⟩; refine ⟨_, rfl, ?_⟩; clear S a; intro a S; replace M := M.grow hK
                  refine st_y S rfl rfl rfl (y_assign S rfl) ?_; clear S a; intro a S
                  refine wpList_nil ?_
                  replace S := S.sub [(0, _), (3, _), (4, _), (5, _), (13, _), (15, _), (16, _), (54, _), (27, _), (28, _), (157, _), (29, _), (30, _), (164, _), (12, _)] rfl
                  refine then_normal ?_
                  refine wp_ret ?_
                  refine then_ret ?_
                  refine end_one S rfl (res_tmp rfl) ?_
                  exact ⟨rfl, M.below⟩
                · clear S; intro h164 S
                  first | replace h164 := nrmA h164 | replace h164 := nrmB h164 | skip
                  first | replace h164 := nrm1 h164 | replace h164 := nrm2 h164 | replace h164 := nrm3 h164 | replace h164 := nrm4 h164 | replace h164 := nrm5 h164 | replace h164 := nrm6 h164 | replace h164 := of_decide_eq_true h164 | replace h164 := of_decide_eq_false h164 | skip
                  refine st_condF S rfl ?_
                  refine wp_skip ?_
                  refine then_normal ?_
                  refine wp_seq ?_
                  -- region 32 law.go:91
                  refine wp_region_lit ?_
                  obtain ⟨hmr, hbr⟩ := rd_some h164
                  refine st_y S rfl rfl rfl (y_loadAgg (cs := [_, _, _, _, _, _]) S (by kernel_rfl) rfl rfl (M.cellsAt (k := 6) 0 rfl rfl)) ?_; clear S a; intro a S
                  refine st_call (xs := [(Operand.tmp 167)]) S (enters_of Try.func13 (by decide) rfl) rfl rfl rfl (bytes_any (rdF raw) _ (rdL raw) _ (M.wide (k := 1) rfl (by unfold maxLen; omega))) ?_
                  rintro _ w26 ⟨v31, rfl, hK, hF, -⟩; refine ⟨_, rfl, ?_⟩; clear S a; intro a S
                  replace hF := hF hmr
                  rw [hbr] at hF
                  rw [if_pos hmr] at S
                  obtain ⟨loU, hiU, -, M⟩ := M.pushFresh hF
                  refine st_y S rfl rfl rfl (y_move S rfl) ?_; clear S a; intro a S
                  refine st_y S rfl rfl rfl (y_extract S rfl rfl) ?_; clear S a; intro a S
                  refine st_y S rfl rfl rfl (y_extract S rfl rfl) ?_; clear S a; intro a S
                  refine st_y S rfl rfl rfl (y_assign S rfl) ?_; clear S a; intro a S
                  refine st_y S rfl rfl rfl (y_assign S rfl) ?_; clear S a; intro a S
                  refine wpList_nil ?_
                  replace S := S.sub [(0, _), (3, _), (4, _), (5, _), (13, _), (15, _), (16, _), (54, _), (27, _), (28, _), (157, _), (29, _), (30, _), (164, _), (31, _), (32, _)] rfl
                  refine then_normal ?_
                  refine wp_seq ?_
                  -- region 33 law.go:92
                  refine wp_region_lit ?_
                  refine st_y S rfl rfl rfl (y_move S rfl) ?_; clear S a; intro a S
                  refine st_y S rfl rfl rfl (y_int S rfl rfl rfl) ?_; clear S a; intro a S
                  refine st_y S rfl rfl rfl (y_move S rfl) ?_; clear S a; intro a S
                  refine st_split (t := 173) S rfl ?_ ?_
                  · clear S; intro h173 S
                    first | replace h173 := nrmA h173 | replace h173 := nrmB h173 | skip
                    first | replace h173 := nrm1 h173 | replace h173 := nrm2 h173 | replace h173 := nrm3 h173 | replace h173 := nrm4 h173 | replace h173 := nrm5 h173 | replace h173 := nrm6 h173 | replace h173 := of_decide_eq_true h173 | replace h173 := of_decide_eq_false h173 | skip
                    refine st_y S rfl rfl rfl (y_move S rfl) ?_; clear S a; intro a S
                    refine st_y S rfl rfl rfl (y_bytesStr (e := 5) S rfl (by kernel_rfl) (by kernel_rfl) (by kernel_rfl) (M.readRow 0 rfl (by unfold maxLen; omega))) ?_; clear S a; intro a S
                    refine st_y S rfl rfl rfl (y_move S rfl) ?_; clear S a; intro a S
                    refine st_y S rfl rfl rfl (y_bytesStr (e := 5) S rfl (by kernel_rfl) (by kernel_rfl) (by kernel_rfl) (M.arg hr)) ?_; clear S a; intro a S
                    refine st_y S rfl rfl rfl (y_eqlStr S rfl rfl) ?_; clear S a; intro a S
                    refine st_y S rfl rfl rfl (y_pickT S rfl rfl) ?_; clear S a; intro a S
                    refine st_y S rfl rfl rfl (y_move S rfl) ?_; clear S a; intro a S
                    refine st_split (t := 180) S rfl ?_ ?_
                    · clear S; intro h180 S
                      first | replace h180 := nrmA h180 | replace h180 := nrmB h180 | skip
                      first | replace h180 := nrm1 h180 | replace h180 := nrm2 h180 | replace h180 := nrm3 h180 | replace h180 := nrm4 h180 | replace h180 := nrm5 h180 | replace h180 := nrm6 h180 | replace h180 := of_decide_eq_true h180 | replace h180 := of_decide_eq_false h180 | skip
                      refine st_call (xs := []) S (enters_of Try.func7 (by decide) rfl) rfl rfl rfl (wakes04 _) ?_
                      rintro _ w27 ⟨rfl, hK⟩; refine ⟨_, rfl, ?_⟩; clear S a; intro a S; replace M := M.grow hK
                      refine st_y S rfl rfl rfl (y_pickT S rfl rfl) ?_; clear S a; intro a S
                      refine st_y S rfl rfl rfl (y_assign S rfl) ?_; clear S a; intro a S
                      refine wpList_nil ?_
                      replace S := S.sub [(0, _), (3, _), (4, _), (5, _), (13, _), (15, _), (16, _), (54, _), (27, _), (28, _), (157, _), (29, _), (30, _), (164, _), (31, _), (32, _), (12, _)] rfl
                      refine then_normal ?_
                      refine wp_ret ?_
                      refine end_one S rfl (res_tmp rfl) ?_
                      exact ⟨rfl, M.below⟩
                    · clear S; intro h180 S
                      first | replace h180 := nrmA h180 | replace h180 := nrmB h180 | skip
                      first | replace h180 := nrm1 h180 | replace h180 := nrm2 h180 | replace h180 := nrm3 h180 | replace h180 := nrm4 h180 | replace h180 := nrm5 h180 | replace h180 := nrm6 h180 | replace h180 := of_decide_eq_true h180 | replace h180 := of_decide_eq_false h180 | skip
                      simp at h180
                  · clear S; intro h173 S
                    first | replace h173 := nrmA h173 | replace h173 := nrmB h173 | skip
                    first | replace h173 := nrm1 h173 | replace h173 := nrm2 h173 | replace h173 := nrm3 h173 | replace h173 := nrm4 h173 | replace h173 := nrm5 h173 | replace h173 := nrm6 h173 | replace h173 := of_decide_eq_true h173 | replace h173 := of_decide_eq_false h173 | skip
                    exact absurd rfl h173
      · clear S; intro h50 S
        first | replace h50 := nrmA h50 | replace h50 := nrmB h50 | skip
        first | replace h50 := nrm1 h50 | replace h50 := nrm2 h50 | replace h50 := nrm3 h50 | replace h50 := nrm4 h50 | replace h50 := nrm5 h50 | replace h50 := nrm6 h50 | replace h50 := of_decide_eq_true h50 | replace h50 := of_decide_eq_false h50 | skip
        refine st_condF S rfl ?_
        refine wp_skip ?_
        refine then_normal ?_
        refine wp_seq ?_
        -- region 29 law.go:87
        refine wp_region_lit ?_
        refine st_y S rfl rfl rfl (y_move S rfl) ?_; clear S a; intro a S
        refine st_call (xs := [(Operand.tmp 159)]) S (enters_of Try.func15 (by decide) rfl) rfl rfl rfl (read_any rv raw _ (M.argW hr) (by omega)) ?_
        rintro e w28 hP
        obtain ⟨adX, cpX, loX, hiX, rfl, hK, M1⟩ := read_uni M hP
        refine ⟨_, rfl, ?_⟩; clear S a M; intro a S
        have M := M1
        clear M1 hP
        refine st_y S rfl rfl rfl (y_move S rfl) ?_; clear S a; intro a S
        refine st_y S rfl rfl rfl (y_extract S rfl rfl) ?_; clear S a; intro a S
        refine st_y S rfl rfl rfl (y_extract S rfl rfl) ?_; clear S a; intro a S
        refine st_alloc S M rfl rfl #[.int .i64 0, .int .i64 0, .int .i64 0, .int .i64 0, .int .u32 0, .slice none 0 0] (by kernel_rfl) ?_; clear S M a; intro a w29 bY S M hB
        refine st_store (sz := 6) (us := [_, _, _, _, _, _]) S M 0 rfl (by kernel_rfl) rfl rfl rfl rfl rfl rfl (by first | decide | (simp; done) | (simp; omega)) ?_; clear M; intro w30 M
        simp only [putL, List.set_cons_zero, List.set_cons_succ, Nat.reduceAdd] at M
        refine st_y S rfl rfl rfl (y_assign S rfl) ?_; clear S a; intro a S
        refine wpList_nil ?_
        replace S := S.sub [(0, _), (1, _), (2, _), (3, _), (4, _), (5, _), (12, _), (40, _), (13, _), (14, _), (50, _), (29, _), (30, _)] rfl
        refine then_normal ?_
        refine wp_seq ?_
        refine wp_seq ?_
        -- region 30 law.go:88
        refine wp_region_lit ?_
        refine st_y S rfl rfl rfl (y_move S rfl) ?_; clear S a; intro a S
        refine st_y S rfl rfl rfl (y_int S rfl rfl rfl) ?_; clear S a; intro a S
        refine wpList_nil ?_
        replace S := S.sub [(0, _), (1, _), (2, _), (3, _), (4, _), (5, _), (12, _), (40, _), (13, _), (14, _), (50, _), (29, _), (30, _), (164, _)] rfl
        refine then_normal ?_
        refine st_split (t := 164) S rfl ?_ ?_
        · clear S; intro h164 S
          first | replace h164 := nrmA h164 | replace h164 := nrmB h164 | skip
          first | replace h164 := nrm1 h164 | replace h164 := nrm2 h164 | replace h164 := nrm3 h164 | replace h164 := nrm4 h164 | replace h164 := nrm5 h164 | replace h164 := nrm6 h164 | replace h164 := of_decide_eq_true h164 | replace h164 := of_decide_eq_false h164 | skip
          refine st_condT S rfl ?_
          refine wp_seq ?_
          -- region 31 law.go:89
          refine wp_region_lit ?_
          refine st_call (xs := []) S (enters_of Try.func7 (by decide) rfl) rfl rfl rfl (wakes04 _) ?_
          rintro _ w31 ⟨rfl, hK⟩; refine ⟨_, rfl, ?_⟩; clear S a; intro a S; replace M := M.grow hK
          refine st_y S rfl rfl rfl (y_assign S rfl) ?_; clear S a; intro a S
          refine wpList_nil ?_
          replace S := S.sub [(0, _), (1, _), (2, _), (3, _), (4, _), (5, _), (40, _), (13, _), (14, _), (50, _), (29, _), (30, _), (164, _), (12, _)] rfl
          refine then_normal ?_
          refine wp_ret ?_
          refine then_ret ?_
          refine end_one S rfl (res_tmp rfl) ?_
          exact ⟨rfl, M.below⟩
        · clear S; intro h164 S
          first | replace h164 := nrmA h164 | replace h164 := nrmB h164 | skip
          first | replace h164 := nrm1 h164 | replace h164 := nrm2 h164 | replace h164 := nrm3 h164 | replace h164 := nrm4 h164 | replace h164 := nrm5 h164 | replace h164 := nrm6 h164 | replace h164 := of_decide_eq_true h164 | replace h164 := of_decide_eq_false h164 | skip
          refine st_condF S rfl ?_
          refine wp_skip ?_
          refine then_normal ?_
          refine wp_seq ?_
          -- region 32 law.go:91
          refine wp_region_lit ?_
          obtain ⟨hmr, hbr⟩ := rd_some h164
          refine st_y S rfl rfl rfl (y_loadAgg (cs := [_, _, _, _, _, _]) S (by kernel_rfl) rfl rfl (M.cellsAt (k := 6) 0 rfl rfl)) ?_; clear S a; intro a S
          refine st_call (xs := [(Operand.tmp 167)]) S (enters_of Try.func13 (by decide) rfl) rfl rfl rfl (bytes_any (rdF raw) _ (rdL raw) _ (M.wide (k := 1) rfl (by unfold maxLen; omega))) ?_
          rintro _ w32 ⟨v31, rfl, hK, hF, -⟩; refine ⟨_, rfl, ?_⟩; clear S a; intro a S
          replace hF := hF hmr
          rw [hbr] at hF
          rw [if_pos hmr] at S
          obtain ⟨loU, hiU, -, M⟩ := M.pushFresh hF
          refine st_y S rfl rfl rfl (y_move S rfl) ?_; clear S a; intro a S
          refine st_y S rfl rfl rfl (y_extract S rfl rfl) ?_; clear S a; intro a S
          refine st_y S rfl rfl rfl (y_extract S rfl rfl) ?_; clear S a; intro a S
          refine st_y S rfl rfl rfl (y_assign S rfl) ?_; clear S a; intro a S
          refine st_y S rfl rfl rfl (y_assign S rfl) ?_; clear S a; intro a S
          refine wpList_nil ?_
          replace S := S.sub [(0, _), (1, _), (2, _), (3, _), (4, _), (5, _), (12, _), (40, _), (13, _), (14, _), (50, _), (29, _), (30, _), (164, _), (31, _), (32, _)] rfl
          refine then_normal ?_
          refine wp_seq ?_
          -- region 33 law.go:92
          refine wp_region_lit ?_
          refine st_y S rfl rfl rfl (y_move S rfl) ?_; clear S a; intro a S
          refine st_y S rfl rfl rfl (y_int S rfl rfl rfl) ?_; clear S a; intro a S
          refine st_y S rfl rfl rfl (y_move S rfl) ?_; clear S a; intro a S
          refine st_split (t := 173) S rfl ?_ ?_
          · clear S; intro h173 S
            first | replace h173 := nrmA h173 | replace h173 := nrmB h173 | skip
            first | replace h173 := nrm1 h173 | replace h173 := nrm2 h173 | replace h173 := nrm3 h173 | replace h173 := nrm4 h173 | replace h173 := nrm5 h173 | replace h173 := nrm6 h173 | replace h173 := of_decide_eq_true h173 | replace h173 := of_decide_eq_false h173 | skip
            refine st_y S rfl rfl rfl (y_move S rfl) ?_; clear S a; intro a S
            refine st_y S rfl rfl rfl (y_bytesStr (e := 5) S rfl (by kernel_rfl) (by kernel_rfl) (by kernel_rfl) (M.readRow 0 rfl (by unfold maxLen; omega))) ?_; clear S a; intro a S
            refine st_y S rfl rfl rfl (y_move S rfl) ?_; clear S a; intro a S
            refine st_y S rfl rfl rfl (y_bytesStr (e := 5) S rfl (by kernel_rfl) (by kernel_rfl) (by kernel_rfl) (M.arg hr)) ?_; clear S a; intro a S
            refine st_y S rfl rfl rfl (y_eqlStr S rfl rfl) ?_; clear S a; intro a S
            refine st_y S rfl rfl rfl (y_pickT S rfl rfl) ?_; clear S a; intro a S
            refine st_y S rfl rfl rfl (y_move S rfl) ?_; clear S a; intro a S
            refine st_split (t := 180) S rfl ?_ ?_
            · clear S; intro h180 S
              first | replace h180 := nrmA h180 | replace h180 := nrmB h180 | skip
              first | replace h180 := nrm1 h180 | replace h180 := nrm2 h180 | replace h180 := nrm3 h180 | replace h180 := nrm4 h180 | replace h180 := nrm5 h180 | replace h180 := nrm6 h180 | replace h180 := of_decide_eq_true h180 | replace h180 := of_decide_eq_false h180 | skip
              refine st_call (xs := []) S (enters_of Try.func7 (by decide) rfl) rfl rfl rfl (wakes04 _) ?_
              rintro _ w33 ⟨rfl, hK⟩; refine ⟨_, rfl, ?_⟩; clear S a; intro a S; replace M := M.grow hK
              refine st_y S rfl rfl rfl (y_pickT S rfl rfl) ?_; clear S a; intro a S
              refine st_y S rfl rfl rfl (y_assign S rfl) ?_; clear S a; intro a S
              refine wpList_nil ?_
              replace S := S.sub [(0, _), (1, _), (2, _), (3, _), (4, _), (5, _), (40, _), (13, _), (14, _), (50, _), (29, _), (30, _), (164, _), (31, _), (32, _), (12, _)] rfl
              refine then_normal ?_
              refine wp_ret ?_
              refine end_one S rfl (res_tmp rfl) ?_
              exact ⟨rfl, M.below⟩
            · clear S; intro h180 S
              first | replace h180 := nrmA h180 | replace h180 := nrmB h180 | skip
              first | replace h180 := nrm1 h180 | replace h180 := nrm2 h180 | replace h180 := nrm3 h180 | replace h180 := nrm4 h180 | replace h180 := nrm5 h180 | replace h180 := nrm6 h180 | replace h180 := of_decide_eq_true h180 | replace h180 := of_decide_eq_false h180 | skip
              simp at h180
          · clear S; intro h173 S
            first | replace h173 := nrmA h173 | replace h173 := nrmB h173 | skip
            first | replace h173 := nrm1 h173 | replace h173 := nrm2 h173 | replace h173 := nrm3 h173 | replace h173 := nrm4 h173 | replace h173 := nrm5 h173 | replace h173 := nrm6 h173 | replace h173 := of_decide_eq_true h173 | replace h173 := of_decide_eq_false h173 | skip
            exact absurd rfl h173

end Go.Proofs.Ytdkdplahikoicaa
