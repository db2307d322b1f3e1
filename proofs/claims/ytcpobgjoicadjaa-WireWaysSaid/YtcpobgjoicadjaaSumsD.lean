/-
  Seal and Open, the program's and the document's.
-/
import Derived.Test.YtcpobgjoicadjaaSumsC
import Derived.Test.YtcpobgjoicadjaaVB
namespace Go.Proofs.Ytcpobgjoicadjaa
open Go.RowKit Go.Sort

/-- a sum's four bytes -/
def sum4 (s : BitVec 32) : List UInt8 := [byteOf (s.toNat : Int), byteOf ((s >>> 8).toNat : Int), byteOf ((s >>> 16).toNat : Int), byteOf ((s >>> 24).toNat : Int)]
def sealB (bs : List UInt8) : List UInt8 := bs ++ sum4 (sumT bs)
def openOk (bs : List UInt8) : Prop := ∃ x, bs = sealB x
theorem sum4_get (s : BitVec 32) (j : Nat) (h : j < 4) : (sum4 s)[j]? = some (byteOf ((s >>> (8 * j)).toNat : Int)) := by
  match j, h with
  | 0, _ => simp [sum4]
  | 1, _ => rfl
  | 2, _ => rfl
  | 3, _ => rfl
theorem split4 : ∀ bs : List UInt8, 4 ≤ bs.length → ∃ x cs : List UInt8, bs = x ++ cs ∧ cs.length = 4 := fun bs h =>
  ⟨bs.take (bs.length - 4), bs.drop (bs.length - 4), (List.take_append_drop _ _).symm, by simp; omega⟩
theorem openOk_iff {x cs : List UInt8} (h : cs.length = 4) : openOk (x ++ cs) ↔ cs = sum4 (sumT x) := by
  constructor
  · rintro ⟨y, e⟩
    have hl : x.length = y.length := by have := congrArg List.length e; simp [sealB, sum4, h] at this; exact this
    obtain ⟨rfl, e2⟩ := List.append_inj e hl
    exact e2
  · intro e; exact ⟨x, by rw [e]; rfl⟩
theorem openOk_len {bs : List UInt8} (h : openOk bs) : 4 ≤ bs.length := by obtain ⟨x, rfl⟩ := h; simp [sealB, sum4]

theorem seal_any (v : Value) (bs : List UInt8) (w : World) (hv : Bs 0 w.heap.size w v bs) (hb : bs.length ≤ 70000000000000) : Calls Try.prog 34 #[v] w fun e w' => ∃ v', e = .returned v' ∧ Fresh w w' 5 1 v' (sealB bs).length (bcells (sealB bs)) := by
  have M := Mem.start w
  have hcap := hv.cap
  refine calls_enter Try.func34 rfl 26 rfl rfl ?_; intro a S
  refine wp_seq ?_
  -- region 0 sums.go:54
  refine wp_region_lit ?_
  refine st_y S rfl rfl rfl (y_assign S rfl) ?_; clear S a; intro a S
  refine wpList_nil ?_
  replace S := S.sub [(0, _), (2, _)] rfl
  refine then_normal ?_
  refine wp_seq ?_
  -- region 1 sums.go:55
  refine wp_region_lit ?_
  refine st_y S rfl rfl rfl (y_move S rfl) ?_; clear S a; intro a S
  refine st_y S rfl rfl rfl (y_lenR (E := 5) S rfl (M.arg hv) (by kernel_rfl)) ?_; clear S a; intro a S
  refine st_y S rfl rfl rfl (y_assign S rfl) ?_; clear S a; intro a S
  refine wpList_nil ?_
  replace S := S.sub [(0, _), (2, _), (3, _)] rfl
  refine then_normal ?_
  refine wp_seq ?_
  -- region 2 sums.go:56
  refine wp_region_lit ?_
  refine st_y S rfl rfl rfl (y_move S rfl) ?_; clear S a; intro a S
  refine st_call (xs := [(Operand.tmp 7)]) S (enters_of Try.func39 (by decide) rfl) rfl rfl rfl (sum_any v bs _ (M.argW hv)) ?_
  rintro _ w1 ⟨rfl, hK⟩; refine ⟨_, rfl, ?_⟩; clear S a; intro a S; replace M := M.grow hK
  refine st_y S rfl rfl rfl (y_assign S rfl) ?_; clear S a; intro a S
  refine wpList_nil ?_
  replace S := S.sub [(0, _), (2, _), (3, _), (4, _)] rfl
  refine then_normal ?_
  refine wp_seq ?_
  -- region 3 sums.go:57
  refine wp_region_lit ?_
  refine st_y S rfl rfl rfl (y_move S rfl) ?_; clear S a; intro a S
  refine st_y S rfl rfl rfl (y_move S rfl) ?_; clear S a; intro a S
  refine st_y S rfl rfl rfl (y_move S rfl) ?_; clear S a; intro a S
  refine st_y S rfl rfl rfl (y_slice03R (e := 5) (sz := 1) S (by kernel_rfl) rfl (M.arg hv) rfl rfl (by first | omega | (simp; done) | (simp; omega))) ?_; clear S a; intro a S
  refine st_y S rfl rfl rfl (y_move S rfl) ?_; clear S a; intro a S
  refine st_y S rfl rfl rfl (y_to8 S rfl (by kernel_rfl) (by kernel_rfl)) ?_; clear S a; intro a S
  refine st_y S rfl rfl rfl (y_move S rfl) ?_; clear S a; intro a S
  refine st_y S rfl rfl rfl (y_shr32 (k := 8) S rfl rfl) ?_; clear S a; intro a S
  refine st_y S rfl rfl rfl (y_to8 S rfl (by kernel_rfl) (by kernel_rfl)) ?_; clear S a; intro a S
  refine st_y S rfl rfl rfl (y_move S rfl) ?_; clear S a; intro a S
  refine st_y S rfl rfl rfl (y_shr32 (k := 16) S rfl rfl) ?_; clear S a; intro a S
  refine st_y S rfl rfl rfl (y_to8 S rfl (by kernel_rfl) (by kernel_rfl)) ?_; clear S a; intro a S
  refine st_y S rfl rfl rfl (y_move S rfl) ?_; clear S a; intro a S
  refine st_y S rfl rfl rfl (y_shr32 (k := 24) S rfl rfl) ?_; clear S a; intro a S
  refine st_y S rfl rfl rfl (y_to8 S rfl (by kernel_rfl) (by kernel_rfl)) ?_; clear S a; intro a S
  refine st_lit (ps := [(0, (Operand.tmp 14)), (1, (Operand.tmp 17)), (2, (Operand.tmp 20)), (3, (Operand.tmp 23))]) (e := 5) (sz := 1) (zl := [.int .u8 0, .int .u8 0, .int .u8 0, .int .u8 0]) (cs := [_, _, _, _]) S M rfl rfl (by kernel_rfl) rfl (rfl) ?_; clear S M a; intro a w2 b1 S M hB
  have hX := (M.arg hv).cutB (i := 0) (j := bs.length) (mx := bs.length) (Nat.zero_le _) (Nat.le_refl _) (Nat.le_refl _) hcap.1
  rw [show (bs.drop 0).take (bs.length - 0) = bs by simp] at hX
  rw [Int.toNat_natCast] at S
  have h4 : Rd b1 (b1 + 1) w2 1 (.slice (some ⟨b1, 0, none⟩) 4 4) 4 (bcells (sum4 (sumT bs))) := Rd.of_blk (M.blk 0 rfl) rfl (Nat.le_refl _) (by unfold maxLen; omega) rfl
  have hc0 : capV (cutV v 0 bs.length bs.length 1) < bs.length + 4 := by
    have : capV (cutV v 0 bs.length bs.length 1) = bs.length := by obtain ⟨ad, cap, rfl, _, _⟩ := hv.form; rfl
    omega
  refine st_appendG (e := 5) (sz := 1) (by_ := 1) (zc := [.int .u8 0]) S M rfl rfl (by kernel_rfl) rfl rfl rfl (hX) (hc0) (h4) (by omega) (by unfold maxLen; omega) ?_; clear S M a; intro a w3 vA loA hiA S M
  refine st_y S rfl rfl rfl (y_assign S rfl) ?_; clear S a; intro a S
  refine wpList_nil ?_
  replace S := S.sub [(0, _), (3, _), (4, _), (2, _)] rfl
  refine then_normal ?_
  refine wp_ret ?_
  refine end_one S rfl (res_tmp rfl) ?_
  exact ⟨_, rfl, by have := M.fresh 0 rfl; rwa [← bcells_append, show bs.length + 4 = (bs ++ sum4 (sumT bs)).length by simp [sum4]] at this⟩

open Classical in
noncomputable def openB (bs : List UInt8) : Bool := decide (openOk bs)
theorem openB_true {bs : List UInt8} (h : openOk bs) : openB bs = true := by unfold openB; simpa using h
theorem openB_false {bs : List UInt8} (h : ¬ openOk bs) : openB bs = false := by unfold openB; simpa using h
def OpenPost (bs : List UInt8) (w : World) (e : Ending) (w' : World) : Prop :=
  ∃ v', e = .returned (.tuple #[v', .bool (openB bs)]) ∧ Below w.heap.size w w' ∧ (openOk bs → Fresh w w' 5 1 v' (bs.take (bs.length - 4)).length (bcells (bs.take (bs.length - 4)))) ∧ (¬ openOk bs → v' = .slice none 0 0)
theorem openPost_no {bs : List UInt8} {w w' : World} {H : List Ent} (M : Mem w w' H) (h : ¬ openOk bs) : OpenPost bs w (.returned (.tuple #[.slice none 0 0, .bool false])) w' :=
  ⟨_, by rw [openB_false h], M.below, fun h' => absurd h' h, fun _ => rfl⟩

theorem open_any (v : Value) (bs : List UInt8) (w : World) (hv : Bs 0 w.heap.size w v bs) (hb : bs.length ≤ 70000000000000) : Calls Try.prog 19 #[v] w (OpenPost bs w) := by
  have M := Mem.start w
  have hcap := hv.cap
  refine calls_enter Try.func19 rfl 38 rfl rfl ?_; intro a S
  refine wp_seq ?_
  -- region 0 sums.go:61
  refine wp_region_lit ?_
  refine st_y S rfl rfl rfl (y_assign S rfl) ?_; clear S a; intro a S
  refine st_y S rfl rfl rfl (y_assign S rfl) ?_; clear S a; intro a S
  refine wpList_nil ?_
  replace S := S.sub [(0, _), (2, _), (3, _)] rfl
  refine then_normal ?_
  refine wp_seq ?_
  -- region 1 sums.go:62
  refine wp_region_lit ?_
  refine st_y S rfl rfl rfl (y_move S rfl) ?_; clear S a; intro a S
  refine st_y S rfl rfl rfl (y_lenR (E := 5) S rfl (M.arg hv) (by kernel_rfl)) ?_; clear S a; intro a S
  (first | refine st_y S rfl rfl rfl (y_subN S rfl rfl (by omega)) ?_ | refine st_y S rfl rfl rfl (y_int S rfl rfl rfl) ?_); clear S a; intro a S
  refine st_y S rfl rfl rfl (y_assign S rfl) ?_; clear S a; intro a S
  refine wpList_nil ?_
  replace S := S.sub [(0, _), (2, _), (3, _), (4, _)] rfl
  refine then_normal ?_
  refine wp_seq ?_
  refine wp_seq ?_
  -- region 2 sums.go:63
  refine wp_region_lit ?_
  refine st_y S rfl rfl rfl (y_move S rfl) ?_; clear S a; intro a S
  refine st_y S rfl rfl rfl (y_int S rfl rfl rfl) ?_; clear S a; intro a S
  refine wpList_nil ?_
  replace S := S.sub [(0, _), (2, _), (3, _), (4, _), (12, _)] rfl
  refine then_normal ?_
  refine st_split (t := 12) S rfl ?_ ?_
  · clear S; intro h12 S
    first | replace h12 := nrmA h12 | replace h12 := nrmB h12 | skip
    first | replace h12 := nrm1 h12 | replace h12 := nrm2 h12 | replace h12 := nrm3 h12 | replace h12 := nrm4 h12 | replace h12 := nrm5 h12 | replace h12 := nrm6 h12 | replace h12 := of_decide_eq_true h12 | replace h12 := of_decide_eq_false h12 | skip
    refine st_condT S rfl ?_
    refine wp_seq ?_
    -- region 3 sums.go:64
    refine wp_region_lit ?_
    refine st_y S rfl rfl rfl (y_assign S rfl) ?_; clear S a; intro a S
    refine st_y S rfl rfl rfl (y_assign S rfl) ?_; clear S a; intro a S
    refine wpList_nil ?_
    replace S := S.sub [(0, _), (4, _), (12, _), (2, _), (3, _)] rfl
    refine then_normal ?_
    refine wp_ret ?_
    refine then_ret ?_
    refine end_two S rfl (res_tmp rfl) (res_tmp rfl) ?_
    exact openPost_no M (fun h => by have := openOk_len h; omega)
  · clear S; intro h12 S
    first | replace h12 := nrmA h12 | replace h12 := nrmB h12 | skip
    first | replace h12 := nrm1 h12 | replace h12 := nrm2 h12 | replace h12 := nrm3 h12 | replace h12 := nrm4 h12 | replace h12 := nrm5 h12 | replace h12 := nrm6 h12 | replace h12 := of_decide_eq_true h12 | replace h12 := of_decide_eq_false h12 | skip
    refine st_condF S rfl ?_
    refine wp_skip ?_
    refine then_normal ?_
    refine wp_seq ?_
    -- region 4 sums.go:66
    refine wp_region_lit ?_
    obtain ⟨x, cs, rfl, hcs⟩ := split4 bs (by omega)
    have hlx : (x ++ cs).length = x.length + 4 := by rw [List.length_append, hcs]
    rw [show ((x ++ cs).length : Int) - 4 = (x.length : Int) by omega] at S
    have hX := hv.cutB (i := 0) (j := x.length) (mx := x.length) (Nat.zero_le _) (by omega) (Nat.le_refl _) (by omega)
    rw [show ((x ++ cs).drop 0).take (x.length - 0) = x by simp] at hX
    refine st_y S rfl rfl rfl (y_move S rfl) ?_; clear S a; intro a S
    refine st_y S rfl rfl rfl (y_move S rfl) ?_; clear S a; intro a S
    refine st_y S rfl rfl rfl (y_move S rfl) ?_; clear S a; intro a S
    refine st_y S rfl rfl rfl (y_slice03R (e := 5) (sz := 1) S (by kernel_rfl) rfl (M.arg hv) rfl rfl (by first | omega | (simp; done) | (simp; omega))) ?_; clear S a; intro a S
    refine st_y S rfl rfl rfl (y_assign S rfl) ?_; clear S a; intro a S
    refine wpList_nil ?_
    replace S := S.sub [(0, _), (2, _), (3, _), (4, _), (12, _), (5, _)] rfl
    refine then_normal ?_
    refine wp_seq ?_
    -- region 5 sums.go:67
    refine wp_region_lit ?_
    rw [Int.toNat_natCast] at S
    refine st_y S rfl rfl rfl (y_move S rfl) ?_; clear S a; intro a S
    refine st_call (xs := [(Operand.tmp 17)]) S (enters_of Try.func39 (by decide) rfl) rfl rfl rfl (sum_any _ x _ (M.argW hX)) ?_
    rintro _ w1 ⟨rfl, hK⟩; refine ⟨_, rfl, ?_⟩; clear S a; intro a S; replace M := M.grow hK
    refine st_y S rfl rfl rfl (y_assign S rfl) ?_; clear S a; intro a S
    refine wpList_nil ?_
    replace S := S.sub [(0, _), (2, _), (3, _), (4, _), (12, _), (5, _), (6, _)] rfl
    refine then_normal ?_
    refine wp_seq ?_
    refine wp_seq ?_
    -- region 6 sums.go:68
    refine wp_region_lit ?_
    refine st_y S rfl rfl rfl (y_move S rfl) ?_; clear S a; intro a S
    refine wpList_nil ?_
    replace S := S.sub [(0, _), (2, _), (3, _), (4, _), (12, _), (5, _), (6, _), (19, _)] rfl
    refine then_normal ?_
    refine wp_block ?_
    refine wp_loop_g (fun m a w' => ∃ (j : Nat), j ≤ 4 ∧ m = 4 - j ∧ Sees 38 a [(0, v), (4, .int .i64 (x.length : Int)), (5, cutV v 0 x.length x.length 1), (6, .int .u32 ((sumT x).toNat : Int)), (19, .int .i64 (j : Int))] ∧ Mem w w' [] ∧ ∀ i, i < j → cs[i]? = (sum4 (sumT x))[i]?) (4) ?_ ?_
    · skip
      exact ⟨0, Nat.zero_le _, rfl, S.sub _ rfl, M, fun i hi => by omega⟩
    · clear S M a; intro m a wl
      rintro ⟨j, hj, rfl, S, M, hsame⟩
      refine wp_seq ?_
      -- region 7 sums.go:68
      refine wp_region_lit ?_
      refine st_y S rfl rfl rfl (y_int S rfl rfl rfl) ?_; clear S a; intro a S
      refine wpList_nil ?_
      replace S := S.sub [(0, _), (4, _), (5, _), (6, _), (19, _), (20, _)] rfl
      refine then_normal ?_
      refine wp_seq ?_
      refine st_split (t := 20) S rfl ?_ ?_
      · clear S; intro h20 S
        first | replace h20 := nrmA h20 | replace h20 := nrmB h20 | skip
        first | replace h20 := nrm1 h20 | replace h20 := nrm2 h20 | replace h20 := nrm3 h20 | replace h20 := nrm4 h20 | replace h20 := nrm5 h20 | replace h20 := nrm6 h20 | replace h20 := of_decide_eq_true h20 | replace h20 := of_decide_eq_false h20 | skip
        refine st_condT S rfl ?_
        refine wp_skip ?_
        refine then_normal ?_
        refine wp_seq ?_
        refine wp_block ?_
        refine wp_seq ?_
        -- region 8 sums.go:68
        refine wp_region_lit ?_
        refine st_y S rfl rfl rfl (y_move S rfl) ?_; clear S a; intro a S
        refine st_y S rfl rfl rfl (y_assign S rfl) ?_; clear S a; intro a S
        refine wpList_nil ?_
        replace S := S.sub [(0, _), (4, _), (5, _), (6, _), (19, _), (20, _), (7, _)] rfl
        refine then_normal ?_
        refine wp_seq ?_
        -- region 9 sums.go:69
        have hj4 : j < 4 := by omega
        obtain ⟨c, hc⟩ : ∃ c, cs[j]? = some c := ⟨_, List.getElem?_eq_getElem (by omega)⟩
        have hc' : (x ++ cs)[((x.length : Int) + (j : Int)).toNat]? = some c := by rw [show ((x.length : Int) + (j : Int)).toNat = x.length + j by omega, List.getElem?_append_right (by omega), Nat.add_sub_cancel_left]; exact hc
        refine wp_quiet M (by kernel_rfl) (by kernel_rfl) ?_
        refine qt_y S rfl rfl rfl (fun w M => y_move S rfl) ?_; clear S a; intro a S
        refine qt_y S rfl rfl rfl (fun w M => y_move S rfl) ?_; clear S a; intro a S
        refine qt_y S rfl rfl rfl (fun w M => y_move S rfl) ?_; clear S a; intro a S
        (first | refine qt_y S rfl rfl rfl (fun w M => y_addN S rfl rfl (by omega)) ?_ | refine qt_y S rfl rfl rfl (fun w M => y_int S rfl rfl rfl) ?_); clear S a; intro a S
        refine qt_y S rfl rfl rfl (fun w M => y_indexR (e := 5) (sz := 1) S (by kernel_rfl) rfl (M.arg hv) rfl (by first | omega | (simp; done) | (simp; omega))) ?_; clear S a; intro a S
        try simp only [Int.toNat_natCast, Nat.mul_one, Nat.zero_add] at S
        refine qt_y S rfl rfl rfl (fun w M => y_load S (by kernel_rfl) rfl ((M.arg hv).byte hc')) ?_; clear S a; intro a S
        refine qt_y S rfl rfl rfl (fun w M => y_move S rfl) ?_; clear S a; intro a S
        refine qt_y S rfl rfl rfl (fun w M => y_move S rfl) ?_; clear S a; intro a S
        (first | refine qt_y S rfl rfl rfl (fun w M => y_mulN S rfl rfl (by omega)) ?_ | refine qt_y S rfl rfl rfl (fun w M => y_int S rfl rfl rfl) ?_); clear S a; intro a S
        rw [show (8 : Int) * (j : Int) = ((8 * j : Nat) : Int) by omega] at S
        refine qt_y S rfl rfl rfl (fun w M => y_shr32 S rfl rfl) ?_; clear S a; intro a S
        refine qt_y S rfl rfl rfl (fun w M => y_to8 S rfl (by kernel_rfl) (by kernel_rfl)) ?_; clear S a; intro a S
        refine qt_y S rfl rfl rfl (fun w M => y_int S rfl rfl rfl) ?_; clear S a; intro a S
        refine wpQuiet_nil ?_; clear M; intro w2 M
        replace S := S.sub [(0, _), (4, _), (5, _), (6, _), (19, _), (20, _), (7, _), (33, _)] rfl
        refine then_normal ?_
        refine st_split (t := 33) S rfl ?_ ?_
        · clear S; intro h33 S
          first | replace h33 := nrmA h33 | replace h33 := nrmB h33 | skip
          first | replace h33 := nrm1 h33 | replace h33 := nrm2 h33 | replace h33 := nrm3 h33 | replace h33 := nrm4 h33 | replace h33 := nrm5 h33 | replace h33 := nrm6 h33 | replace h33 := of_decide_eq_true h33 | replace h33 := of_decide_eq_false h33 | skip
          refine st_condT S rfl ?_
          refine wp_seq ?_
          -- region 10 sums.go:70
          refine wp_region_lit ?_
          refine st_y S rfl rfl rfl (y_assign S rfl) ?_; clear S a; intro a S
          refine st_y S rfl rfl rfl (y_assign S rfl) ?_; clear S a; intro a S
          refine wpList_nil ?_
          replace S := S.sub [(0, _), (4, _), (5, _), (6, _), (19, _), (20, _), (7, _), (33, _), (2, _), (3, _)] rfl
          refine then_normal ?_
          refine wp_ret ?_
          refine block_ret ?_
          refine then_ret ?_
          refine then_ret ?_
          refine block_ret ?_
          refine then_ret ?_
          refine end_two S rfl (res_tmp rfl) (res_tmp rfl) ?_
          exact openPost_no M (fun h => by
            have e := (openOk_iff hcs).1 h
            rw [e, sum4_get _ _ hj4] at hc
            have := Option.some.inj hc
            rw [this] at h33; exact h33 rfl)
        · clear S; intro h33 S
          first | replace h33 := nrmA h33 | replace h33 := nrmB h33 | skip
          first | replace h33 := nrm1 h33 | replace h33 := nrm2 h33 | replace h33 := nrm3 h33 | replace h33 := nrm4 h33 | replace h33 := nrm5 h33 | replace h33 := nrm6 h33 | replace h33 := of_decide_eq_true h33 | replace h33 := of_decide_eq_false h33 | skip
          refine st_condF S rfl ?_
          refine wp_skip ?_
          refine block_normal ?_
          refine then_normal ?_
          -- region 11 sums.go:68
          refine wp_region_lit ?_
          (first | refine st_y S rfl rfl rfl (y_addN S rfl rfl (by omega)) ?_ | refine st_y S rfl rfl rfl (y_int S rfl rfl rfl) ?_); clear S a; intro a S
          refine st_y S rfl rfl rfl (y_move S rfl) ?_; clear S a; intro a S
          refine wpList_nil ?_
          replace S := S.sub [(0, _), (4, _), (5, _), (6, _), (20, _), (7, _), (33, _), (19, _)] rfl
          refine then_normal ?_
          refine ⟨4 - (j + 1), by omega, j + 1, by omega, rfl, S.sub _ rfl, M, fun i hi => ?_⟩
          rcases Nat.lt_or_ge i j with h | h
          · exact hsame i h
          · have : i = j := by omega
            subst this
            rw [hc, sum4_get _ _ hj4]
            congr 1
            exact UInt8.toNat_inj.1 (by omega)
      · clear S; intro h20 S
        first | replace h20 := nrmA h20 | replace h20 := nrmB h20 | skip
        first | replace h20 := nrm1 h20 | replace h20 := nrm2 h20 | replace h20 := nrm3 h20 | replace h20 := nrm4 h20 | replace h20 := nrm5 h20 | replace h20 := nrm6 h20 | replace h20 := of_decide_eq_true h20 | replace h20 := of_decide_eq_false h20 | skip
        refine st_condF S rfl ?_
        refine wp_exit ?_
        refine then_exit ?_
        refine then_exit ?_
        refine block_hit ?_
        refine then_normal ?_
        refine wp_seq ?_
        -- region 12 sums.go:73
        refine wp_region_lit ?_
        obtain rfl : j = 4 := by omega
        have hok : openOk (x ++ cs) := (openOk_iff hcs).2 (by
          apply List.ext_getElem?
          intro i
          rcases Nat.lt_or_ge i 4 with h | h
          · exact hsame i h
          · rw [List.getElem?_eq_none (by omega), List.getElem?_eq_none (by simp [sum4]; omega)])
        refine st_lit0 (e := 5) (sz := 1) (by_ := 1) (zc := [.int .u8 0]) S M rfl rfl (by kernel_rfl) ?_; clear S M a; intro a w3 b1 S M hB
        refine st_y S rfl rfl rfl (y_move S rfl) ?_; clear S a; intro a S
        replace M := M.toRow (sz := 1) (m := 0) (cap := 0) (xs := []) 0 rfl rfl (Nat.le_refl _) (Nat.zero_le _) rfl rfl
        refine st_append (e := 5) (sz := 1) (by_ := 1) (zc := [.int .u8 0]) S M 0 rfl rfl (by kernel_rfl) rfl (by decide) rfl rfl rfl (M.arg hX) (allOne_bcells _) (by omega) (by unfold maxLen; omega) ?_; clear S M a; intro a w4 vA loA hiA S M
        refine st_y S rfl rfl rfl (y_assign S rfl) ?_; clear S a; intro a S
        refine st_y S rfl rfl rfl (y_assign S rfl) ?_; clear S a; intro a S
        refine wpList_nil ?_
        replace S := S.sub [(0, _), (4, _), (5, _), (6, _), (19, _), (20, _), (2, _), (3, _)] rfl
        refine then_normal ?_
        refine wp_ret ?_
        refine end_two S rfl (res_tmp rfl) (res_tmp rfl) ?_
        have M' := M.fresh 0 rfl
        rw [Nat.zero_add, List.nil_append] at M'
        exact ⟨_, by rw [openB_true hok], M.below, fun _ => by rw [show (x ++ cs).take ((x ++ cs).length - 4) = x by rw [hlx]; simp]; exact M', fun h => absurd hok h⟩

theorem refOpen_any (v : Value) (bs : List UInt8) (w : World) (hv : Bs 0 w.heap.size w v bs) (hb : bs.length ≤ 70000000000000) : Calls Try.prog 24 #[v] w (OpenPost bs w) := by
  have M := Mem.start w
  have hcap := hv.cap
  refine calls_enter Try.func24 rfl 62 rfl rfl ?_; intro a S
  refine wp_seq ?_
  -- region 0 ref.go:38
  refine wp_region_lit ?_
  refine st_y S rfl rfl rfl (y_assign S rfl) ?_; clear S a; intro a S
  refine st_y S rfl rfl rfl (y_assign S rfl) ?_; clear S a; intro a S
  refine wpList_nil ?_
  replace S := S.sub [(0, _), (2, _), (3, _)] rfl
  refine then_normal ?_
  refine wp_seq ?_
  refine wp_seq ?_
  -- region 1 ref.go:39
  refine wp_region_lit ?_
  refine st_y S rfl rfl rfl (y_move S rfl) ?_; clear S a; intro a S
  refine st_y S rfl rfl rfl (y_lenR (E := 5) S rfl (M.arg hv) (by kernel_rfl)) ?_; clear S a; intro a S
  refine st_y S rfl rfl rfl (y_int S rfl rfl rfl) ?_; clear S a; intro a S
  refine wpList_nil ?_
  replace S := S.sub [(0, _), (2, _), (3, _), (9, _)] rfl
  refine then_normal ?_
  refine st_split (t := 9) S rfl ?_ ?_
  · clear S; intro h9 S
    first | replace h9 := nrmA h9 | replace h9 := nrmB h9 | skip
    first | replace h9 := nrm1 h9 | replace h9 := nrm2 h9 | replace h9 := nrm3 h9 | replace h9 := nrm4 h9 | replace h9 := nrm5 h9 | replace h9 := nrm6 h9 | replace h9 := of_decide_eq_true h9 | replace h9 := of_decide_eq_false h9 | skip
    refine st_condT S rfl ?_
    refine wp_seq ?_
    -- region 2 ref.go:40
    refine wp_region_lit ?_
    refine st_y S rfl rfl rfl (y_assign S rfl) ?_; clear S a; intro a S
    refine st_y S rfl rfl rfl (y_assign S rfl) ?_; clear S a; intro a S
    refine wpList_nil ?_
    replace S := S.sub [(0, _), (9, _), (2, _), (3, _)] rfl
    refine then_normal ?_
    refine wp_ret ?_
    refine then_ret ?_
    refine end_two S rfl (res_tmp rfl) (res_tmp rfl) ?_
    exact openPost_no M (fun h => by have := openOk_len h; omega)
  · clear S; intro h9 S
    first | replace h9 := nrmA h9 | replace h9 := nrmB h9 | skip
    first | replace h9 := nrm1 h9 | replace h9 := nrm2 h9 | replace h9 := nrm3 h9 | replace h9 := nrm4 h9 | replace h9 := nrm5 h9 | replace h9 := nrm6 h9 | replace h9 := of_decide_eq_true h9 | replace h9 := of_decide_eq_false h9 | skip
    refine st_condF S rfl ?_
    refine wp_skip ?_
    refine then_normal ?_
    refine wp_seq ?_
    -- region 3 ref.go:42
    refine wp_region_lit ?_
    refine st_y S rfl rfl rfl (y_move S rfl) ?_; clear S a; intro a S
    refine st_y S rfl rfl rfl (y_lenR (E := 5) S rfl (M.arg hv) (by kernel_rfl)) ?_; clear S a; intro a S
    (first | refine st_y S rfl rfl rfl (y_subN S rfl rfl (by omega)) ?_ | refine st_y S rfl rfl rfl (y_int S rfl rfl rfl) ?_); clear S a; intro a S
    refine st_y S rfl rfl rfl (y_assign S rfl) ?_; clear S a; intro a S
    refine wpList_nil ?_
    replace S := S.sub [(0, _), (2, _), (3, _), (9, _), (4, _)] rfl
    refine then_normal ?_
    refine wp_seq ?_
    -- region 4 ref.go:43
    refine wp_region_lit ?_
    obtain ⟨x, cs, rfl, hcs⟩ := split4 bs (by omega)
    have hlx : (x ++ cs).length = x.length + 4 := by rw [List.length_append, hcs]
    rw [show ((x ++ cs).length : Int) - 4 = (x.length : Int) by omega] at S
    have hX := hv.cutB (i := 0) (j := x.length) (mx := capV v) (Nat.zero_le _) (by omega) (by omega) (Nat.le_refl _)
    rw [show ((x ++ cs).drop 0).take (x.length - 0) = x by simp] at hX
    obtain ⟨c0, c1, c2, c3, rfl⟩ : ∃ c0 c1 c2 c3, cs = [c0, c1, c2, c3] := by
      match cs, hcs with
      | [a, b, c, d], _ => exact ⟨a, b, c, d, rfl⟩
    have g0 : (x ++ [c0, c1, c2, c3])[x.length]? = some c0 := by simp
    have g1 : (x ++ [c0, c1, c2, c3])[((x.length : Int) + 1).toNat]? = some c1 := by rw [show ((x.length : Int) + 1).toNat = x.length + 1 by omega, List.getElem?_append_right (by omega)]; simp
    have g2 : (x ++ [c0, c1, c2, c3])[((x.length : Int) + 2).toNat]? = some c2 := by rw [show ((x.length : Int) + 2).toNat = x.length + 2 by omega, List.getElem?_append_right (by omega)]; simp
    have g3 : (x ++ [c0, c1, c2, c3])[((x.length : Int) + 3).toNat]? = some c3 := by rw [show ((x.length : Int) + 3).toNat = x.length + 3 by omega, List.getElem?_append_right (by omega)]; simp
    refine st_y S rfl rfl rfl (y_move S rfl) ?_; clear S a; intro a S
    refine st_y S rfl rfl rfl (y_move S rfl) ?_; clear S a; intro a S
    refine st_y S rfl rfl rfl (y_slice02R (e := 5) (sz := 1) S (by kernel_rfl) rfl (M.arg hv) rfl (by first | omega | (simp; done) | (simp; omega))) ?_; clear S a; intro a S
    rw [Int.toNat_natCast] at S
    refine st_call (xs := [(Operand.tmp 15)]) S (enters_of Try.func42 (by decide) rfl) rfl rfl rfl (refSum_any _ x _ (M.argW hX)) ?_
    rintro _ w1 ⟨rfl, hK⟩; refine ⟨_, rfl, ?_⟩; clear S a; intro a S; replace M := M.grow hK
    refine st_y S rfl rfl rfl (y_assign S rfl) ?_; clear S a; intro a S
    refine wpList_nil ?_
    replace S := S.sub [(0, _), (2, _), (3, _), (9, _), (4, _), (5, _)] rfl
    refine then_normal ?_
    refine wp_seq ?_
    refine wp_seq ?_
    -- region 5 ref.go:44
    refine wp_region_lit ?_
    refine st_y S rfl rfl rfl (y_move S rfl) ?_; clear S a; intro a S
    refine st_y S rfl rfl rfl (y_move S rfl) ?_; clear S a; intro a S
    refine st_y S rfl rfl rfl (y_indexR (e := 5) (sz := 1) S (by kernel_rfl) rfl (M.arg hv) rfl (by first | omega | (simp; done) | (simp; omega))) ?_; clear S a; intro a S
    try simp only [Int.toNat_natCast, Nat.mul_one, Nat.zero_add] at S
    refine st_y S rfl rfl rfl (y_load S (by kernel_rfl) rfl ((M.arg hv).byte g0)) ?_; clear S a; intro a S
    refine st_y S rfl rfl rfl (y_move S rfl) ?_; clear S a; intro a S
    refine st_y S rfl rfl rfl (y_to8 S rfl (by kernel_rfl) (by kernel_rfl)) ?_; clear S a; intro a S
    refine st_y S rfl rfl rfl (y_int S rfl rfl rfl) ?_; clear S a; intro a S
    refine st_y S rfl rfl rfl (y_move S rfl) ?_; clear S a; intro a S
    refine st_split (t := 24) S rfl ?_ ?_
    · clear S; intro h24 S
      first | replace h24 := nrmA h24 | replace h24 := nrmB h24 | skip
      first | replace h24 := nrm1 h24 | replace h24 := nrm2 h24 | replace h24 := nrm3 h24 | replace h24 := nrm4 h24 | replace h24 := nrm5 h24 | replace h24 := nrm6 h24 | replace h24 := of_decide_eq_true h24 | replace h24 := of_decide_eq_false h24 | skip
      refine st_skip 9 S rfl ?_; clear S a; intro a S
      refine st_y S rfl rfl rfl (y_pickT S rfl rfl) ?_; clear S a; intro a S
      refine st_y S rfl rfl rfl (y_move S rfl) ?_; clear S a; intro a S
      refine st_skip 9 S rfl ?_; clear S a; intro a S
      refine st_y S rfl rfl rfl (y_pickT S rfl rfl) ?_; clear S a; intro a S
      refine st_y S rfl rfl rfl (y_move S rfl) ?_; clear S a; intro a S
      refine st_skip 9 S rfl ?_; clear S a; intro a S
      refine st_y S rfl rfl rfl (y_pickT S rfl rfl) ?_; clear S a; intro a S
      refine wpList_nil ?_
      replace S := S.sub [(0, _), (2, _), (3, _), (9, _), (4, _), (5, _), (56, _)] rfl
      refine then_normal ?_
      refine st_condT S rfl ?_
      refine wp_seq ?_
      -- region 6 ref.go:45
      refine wp_region_lit ?_
      refine st_y S rfl rfl rfl (y_assign S rfl) ?_; clear S a; intro a S
      refine st_y S rfl rfl rfl (y_assign S rfl) ?_; clear S a; intro a S
      refine wpList_nil ?_
      replace S := S.sub [(0, _), (9, _), (4, _), (5, _), (56, _), (2, _), (3, _)] rfl
      refine then_normal ?_
      refine wp_ret ?_
      refine then_ret ?_
      refine end_two S rfl (res_tmp rfl) (res_tmp rfl) ?_
      exact openPost_no M (fun h => by
        have e := (openOk_iff hcs).1 h
        simp only [sum4, List.cons.injEq, and_true] at e
        obtain ⟨e0, e1, e2, e3⟩ := e
        first
          | (apply h24; rw [e0])
          | (apply h35; rw [e1])
          | (apply h46; rw [e2])
          | (apply h56; rw [e3]))
    · clear S; intro h24 S
      first | replace h24 := nrmA h24 | replace h24 := nrmB h24 | skip
      first | replace h24 := nrm1 h24 | replace h24 := nrm2 h24 | replace h24 := nrm3 h24 | replace h24 := nrm4 h24 | replace h24 := nrm5 h24 | replace h24 := nrm6 h24 | replace h24 := of_decide_eq_true h24 | replace h24 := of_decide_eq_false h24 | skip
      refine st_y S rfl rfl rfl (y_move S rfl) ?_; clear S a; intro a S
      refine st_y S rfl rfl rfl (y_move S rfl) ?_; clear S a; intro a S
      (first | refine st_y S rfl rfl rfl (y_addN S rfl rfl (by omega)) ?_ | refine st_y S rfl rfl rfl (y_int S rfl rfl rfl) ?_); clear S a; intro a S
      refine st_y S rfl rfl rfl (y_indexR (e := 5) (sz := 1) S (by kernel_rfl) rfl (M.arg hv) rfl (by first | omega | (simp; done) | (simp; omega))) ?_; clear S a; intro a S
      try simp only [Int.toNat_natCast, Nat.mul_one, Nat.zero_add] at S
      refine st_y S rfl rfl rfl (y_load S (by kernel_rfl) rfl ((M.arg hv).byte g1)) ?_; clear S a; intro a S
      refine st_y S rfl rfl rfl (y_move S rfl) ?_; clear S a; intro a S
      refine st_y S rfl rfl rfl (y_shr32 (k := 8) S rfl rfl) ?_; clear S a; intro a S
      refine st_y S rfl rfl rfl (y_to8 S rfl (by kernel_rfl) (by kernel_rfl)) ?_; clear S a; intro a S
      refine st_y S rfl rfl rfl (y_int S rfl rfl rfl) ?_; clear S a; intro a S
      refine st_y S rfl rfl rfl (y_pickF S rfl rfl) ?_; clear S a; intro a S
      refine st_y S rfl rfl rfl (y_move S rfl) ?_; clear S a; intro a S
      refine st_split (t := 35) S rfl ?_ ?_
      · clear S; intro h35 S
        first | replace h35 := nrmA h35 | replace h35 := nrmB h35 | skip
        first | replace h35 := nrm1 h35 | replace h35 := nrm2 h35 | replace h35 := nrm3 h35 | replace h35 := nrm4 h35 | replace h35 := nrm5 h35 | replace h35 := nrm6 h35 | replace h35 := of_decide_eq_true h35 | replace h35 := of_decide_eq_false h35 | skip
        refine st_skip 9 S rfl ?_; clear S a; intro a S
        refine st_y S rfl rfl rfl (y_pickT S rfl rfl) ?_; clear S a; intro a S
        refine st_y S rfl rfl rfl (y_move S rfl) ?_; clear S a; intro a S
        refine st_skip 9 S rfl ?_; clear S a; intro a S
        refine st_y S rfl rfl rfl (y_pickT S rfl rfl) ?_; clear S a; intro a S
        refine wpList_nil ?_
        replace S := S.sub [(0, _), (2, _), (3, _), (9, _), (4, _), (5, _), (56, _)] rfl
        refine then_normal ?_
        refine st_condT S rfl ?_
        refine wp_seq ?_
        -- region 6 ref.go:45
        refine wp_region_lit ?_
        refine st_y S rfl rfl rfl (y_assign S rfl) ?_; clear S a; intro a S
        refine st_y S rfl rfl rfl (y_assign S rfl) ?_; clear S a; intro a S
        refine wpList_nil ?_
        replace S := S.sub [(0, _), (9, _), (4, _), (5, _), (56, _), (2, _), (3, _)] rfl
        refine then_normal ?_
        refine wp_ret ?_
        refine then_ret ?_
        refine end_two S rfl (res_tmp rfl) (res_tmp rfl) ?_
        exact openPost_no M (fun h => by
          have e := (openOk_iff hcs).1 h
          simp only [sum4, List.cons.injEq, and_true] at e
          obtain ⟨e0, e1, e2, e3⟩ := e
          first
            | (apply h24; rw [e0])
            | (apply h35; rw [e1])
            | (apply h46; rw [e2])
            | (apply h56; rw [e3]))
      · clear S; intro h35 S
        first | replace h35 := nrmA h35 | replace h35 := nrmB h35 | skip
        first | replace h35 := nrm1 h35 | replace h35 := nrm2 h35 | replace h35 := nrm3 h35 | replace h35 := nrm4 h35 | replace h35 := nrm5 h35 | replace h35 := nrm6 h35 | replace h35 := of_decide_eq_true h35 | replace h35 := of_decide_eq_false h35 | skip
        refine st_y S rfl rfl rfl (y_move S rfl) ?_; clear S a; intro a S
        refine st_y S rfl rfl rfl (y_move S rfl) ?_; clear S a; intro a S
        (first | refine st_y S rfl rfl rfl (y_addN S rfl rfl (by omega)) ?_ | refine st_y S rfl rfl rfl (y_int S rfl rfl rfl) ?_); clear S a; intro a S
        refine st_y S rfl rfl rfl (y_indexR (e := 5) (sz := 1) S (by kernel_rfl) rfl (M.arg hv) rfl (by first | omega | (simp; done) | (simp; omega))) ?_; clear S a; intro a S
        try simp only [Int.toNat_natCast, Nat.mul_one, Nat.zero_add] at S
        refine st_y S rfl rfl rfl (y_load S (by kernel_rfl) rfl ((M.arg hv).byte g2)) ?_; clear S a; intro a S
        refine st_y S rfl rfl rfl (y_move S rfl) ?_; clear S a; intro a S
        refine st_y S rfl rfl rfl (y_shr32 (k := 16) S rfl rfl) ?_; clear S a; intro a S
        refine st_y S rfl rfl rfl (y_to8 S rfl (by kernel_rfl) (by kernel_rfl)) ?_; clear S a; intro a S
        refine st_y S rfl rfl rfl (y_int S rfl rfl rfl) ?_; clear S a; intro a S
        refine st_y S rfl rfl rfl (y_pickF S rfl rfl) ?_; clear S a; intro a S
        refine st_y S rfl rfl rfl (y_move S rfl) ?_; clear S a; intro a S
        refine st_split (t := 46) S rfl ?_ ?_
        · clear S; intro h46 S
          first | replace h46 := nrmA h46 | replace h46 := nrmB h46 | skip
          first | replace h46 := nrm1 h46 | replace h46 := nrm2 h46 | replace h46 := nrm3 h46 | replace h46 := nrm4 h46 | replace h46 := nrm5 h46 | replace h46 := nrm6 h46 | replace h46 := of_decide_eq_true h46 | replace h46 := of_decide_eq_false h46 | skip
          refine st_skip 9 S rfl ?_; clear S a; intro a S
          refine st_y S rfl rfl rfl (y_pickT S rfl rfl) ?_; clear S a; intro a S
          refine wpList_nil ?_
          replace S := S.sub [(0, _), (2, _), (3, _), (9, _), (4, _), (5, _), (56, _)] rfl
          refine then_normal ?_
          refine st_condT S rfl ?_
          refine wp_seq ?_
          -- region 6 ref.go:45
          refine wp_region_lit ?_
          refine st_y S rfl rfl rfl (y_assign S rfl) ?_; clear S a; intro a S
          refine st_y S rfl rfl rfl (y_assign S rfl) ?_; clear S a; intro a S
          refine wpList_nil ?_
          replace S := S.sub [(0, _), (9, _), (4, _), (5, _), (56, _), (2, _), (3, _)] rfl
          refine then_normal ?_
          refine wp_ret ?_
          refine then_ret ?_
          refine end_two S rfl (res_tmp rfl) (res_tmp rfl) ?_
          exact openPost_no M (fun h => by
            have e := (openOk_iff hcs).1 h
            simp only [sum4, List.cons.injEq, and_true] at e
            obtain ⟨e0, e1, e2, e3⟩ := e
            first
              | (apply h24; rw [e0])
              | (apply h35; rw [e1])
              | (apply h46; rw [e2])
              | (apply h56; rw [e3]))
        · clear S; intro h46 S
          first | replace h46 := nrmA h46 | replace h46 := nrmB h46 | skip
          first | replace h46 := nrm1 h46 | replace h46 := nrm2 h46 | replace h46 := nrm3 h46 | replace h46 := nrm4 h46 | replace h46 := nrm5 h46 | replace h46 := nrm6 h46 | replace h46 := of_decide_eq_true h46 | replace h46 := of_decide_eq_false h46 | skip
          refine st_y S rfl rfl rfl (y_move S rfl) ?_; clear S a; intro a S
          refine st_y S rfl rfl rfl (y_move S rfl) ?_; clear S a; intro a S
          (first | refine st_y S rfl rfl rfl (y_addN S rfl rfl (by omega)) ?_ | refine st_y S rfl rfl rfl (y_int S rfl rfl rfl) ?_); clear S a; intro a S
          refine st_y S rfl rfl rfl (y_indexR (e := 5) (sz := 1) S (by kernel_rfl) rfl (M.arg hv) rfl (by first | omega | (simp; done) | (simp; omega))) ?_; clear S a; intro a S
          try simp only [Int.toNat_natCast, Nat.mul_one, Nat.zero_add] at S
          refine st_y S rfl rfl rfl (y_load S (by kernel_rfl) rfl ((M.arg hv).byte g3)) ?_; clear S a; intro a S
          refine st_y S rfl rfl rfl (y_move S rfl) ?_; clear S a; intro a S
          refine st_y S rfl rfl rfl (y_shr32 (k := 24) S rfl rfl) ?_; clear S a; intro a S
          refine st_y S rfl rfl rfl (y_to8 S rfl (by kernel_rfl) (by kernel_rfl)) ?_; clear S a; intro a S
          refine st_y S rfl rfl rfl (y_int S rfl rfl rfl) ?_; clear S a; intro a S
          refine st_y S rfl rfl rfl (y_pickF S rfl rfl) ?_; clear S a; intro a S
          refine wpList_nil ?_
          replace S := S.sub [(0, _), (2, _), (3, _), (9, _), (4, _), (5, _), (56, _)] rfl
          refine then_normal ?_
          refine st_split (t := 56) S rfl ?_ ?_
          · clear S; intro h56 S
            first | replace h56 := nrmA h56 | replace h56 := nrmB h56 | skip
            first | replace h56 := nrm1 h56 | replace h56 := nrm2 h56 | replace h56 := nrm3 h56 | replace h56 := nrm4 h56 | replace h56 := nrm5 h56 | replace h56 := nrm6 h56 | replace h56 := of_decide_eq_true h56 | replace h56 := of_decide_eq_false h56 | skip
            refine st_condT S rfl ?_
            refine wp_seq ?_
            -- region 6 ref.go:45
            refine wp_region_lit ?_
            refine st_y S rfl rfl rfl (y_assign S rfl) ?_; clear S a; intro a S
            refine st_y S rfl rfl rfl (y_assign S rfl) ?_; clear S a; intro a S
            refine wpList_nil ?_
            replace S := S.sub [(0, _), (9, _), (4, _), (5, _), (56, _), (2, _), (3, _)] rfl
            refine then_normal ?_
            refine wp_ret ?_
            refine then_ret ?_
            refine end_two S rfl (res_tmp rfl) (res_tmp rfl) ?_
            exact openPost_no M (fun h => by
              have e := (openOk_iff hcs).1 h
              simp only [sum4, List.cons.injEq, and_true] at e
              obtain ⟨e0, e1, e2, e3⟩ := e
              first
                | (apply h24; rw [e0])
                | (apply h35; rw [e1])
                | (apply h46; rw [e2])
                | (apply h56; rw [e3]))
          · clear S; intro h56 S
            first | replace h56 := nrmA h56 | replace h56 := nrmB h56 | skip
            first | replace h56 := nrm1 h56 | replace h56 := nrm2 h56 | replace h56 := nrm3 h56 | replace h56 := nrm4 h56 | replace h56 := nrm5 h56 | replace h56 := nrm6 h56 | replace h56 := of_decide_eq_true h56 | replace h56 := of_decide_eq_false h56 | skip
            refine st_condF S rfl ?_
            refine wp_skip ?_
            refine then_normal ?_
            refine wp_seq ?_
            -- region 7 ref.go:47
            refine wp_region_lit ?_
            have hok : openOk (x ++ [c0, c1, c2, c3]) := (openOk_iff hcs).2 (by
              simp only [sum4, List.cons.injEq, and_true]
              exact ⟨UInt8.toNat_inj.1 (by omega), UInt8.toNat_inj.1 (by omega), UInt8.toNat_inj.1 (by omega), UInt8.toNat_inj.1 (by omega)⟩)
            refine st_y S rfl rfl rfl (y_assign S rfl) ?_; clear S a; intro a S
            refine wpList_nil ?_
            replace S := S.sub [(0, _), (2, _), (3, _), (9, _), (4, _), (5, _), (56, _), (6, _)] rfl
            refine then_normal ?_
            refine wp_seq ?_
            -- region 8 ref.go:48
            refine wp_region_lit ?_
            refine st_y S rfl rfl rfl (y_move S rfl) ?_; clear S a; intro a S
            refine st_y S rfl rfl rfl (y_move S rfl) ?_; clear S a; intro a S
            refine st_y S rfl rfl rfl (y_move S rfl) ?_; clear S a; intro a S
            refine st_y S rfl rfl rfl (y_slice02R (e := 5) (sz := 1) S (by kernel_rfl) rfl (M.arg hv) rfl (by first | omega | (simp; done) | (simp; omega))) ?_; clear S a; intro a S
            rw [Int.toNat_natCast] at S
            replace M := M.rowNil 5 1
            refine st_append (e := 5) (sz := 1) (by_ := 1) (zc := [.int .u8 0]) S M 0 rfl rfl (by kernel_rfl) rfl (by decide) rfl rfl rfl (M.arg hX) (allOne_bcells _) (by omega) (by unfold maxLen; omega) ?_; clear S M a; intro a w2 vA loA hiA S M
            refine st_y S rfl rfl rfl (y_assign S rfl) ?_; clear S a; intro a S
            refine st_y S rfl rfl rfl (y_assign S rfl) ?_; clear S a; intro a S
            refine wpList_nil ?_
            replace S := S.sub [(0, _), (9, _), (4, _), (5, _), (56, _), (6, _), (2, _), (3, _)] rfl
            refine then_normal ?_
            refine wp_ret ?_
            refine end_two S rfl (res_tmp rfl) (res_tmp rfl) ?_
            have M' := M.fresh 0 rfl
            rw [Nat.zero_add, List.nil_append] at M'
            exact ⟨_, by rw [openB_true hok], M.below, fun _ => by rw [show (x ++ [c0, c1, c2, c3]).take ((x ++ [c0, c1, c2, c3]).length - 4) = x by rw [hlx]; simp]; exact M', fun h => absurd hok h⟩

end Go.Proofs.Ytcpobgjoicadjaa
