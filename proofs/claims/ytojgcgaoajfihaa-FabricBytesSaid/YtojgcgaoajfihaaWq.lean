/-
  The document's layer 15: Read.
-/
import Derived.Test.YtojgcgaoajfihaaWr
import Derived.Test.YtojgcgaoajfihaaWi
import Derived.Test.YtojgcgaoajfihaaSr
import Derived.Test.YtojgcgaoajfihaaFb
namespace Go.Proofs.Ytojgcgaoajfihaa
open Go.RowKit Go.Sort

theorem rSw_len (bs : List UInt8) (p : Mp) : (rSw bs p).2.1.length ≤ 255 := by
  unfold rSw
  split
  · simp
  split
  · simp
  split
  · exact rWs_len bs _
  (repeat' split) <;> simp
set_option maxHeartbeats 1000000 in
theorem readF_any (v : Value) (bs : List UInt8) (w : World) (hv : Bs 0 w.heap.size w v bs) (hb : bs.length ≤ 100000) : Calls Try.prog 25 #[v] w (ReadMPost bs w) := by
  have M := Mem.start w
  refine calls_enter Try.func25 rfl 153 rfl rfl ?_; intro a S
  refine nxD ?_
  refine st_alloc S M rfl rfl #[.int .i8 0, .int .i64 0, .int .i64 0, .int .i64 0, .int .i64 0, .int .i64 0, .int .i64 0, .int .i64 0, .int .i64 0, .int .i8 0, .int .i64 0, .int .u8 0, .int .u8 0, .int .u8 0, .int .u8 0, .int .u8 0, .int .u8 0, .int .u8 0, .int .u8 0, .int .i64 0, .bool false, .int .i64 0, .int .i64 0, .slice none 0 0] (by kernel_rfl) ?_; clear S M a; intro a w1 bO S M hB
  refine st_go [1] S rfl (by kernel_rfl) ?_; clear S a; intro a S
  refine nxA ?_
  refine st_go [1] S rfl (by kernel_rfl) ?_; clear S a; intro a S
  refine st_call (xs := [(Operand.tmp 12)]) S (enters_of Try.func44 (by decide) rfl) rfl rfl rfl (refOpen_any _ bs _ (M.argW hv) (by omega)) ?_
  rintro _ w2 ⟨v1, rfl, hK, hyes, hno⟩; refine ⟨_, rfl, ?_⟩; clear S a; intro a S
  refine st_go [1, 1, 1, 1, 1] S rfl (by kernel_rfl) ?_; clear S a; intro a S
  refine nxC ?_
  refine wp_seq ?_
  refine nxD ?_
  refine st_go [1, 1, 1] S rfl (by kernel_rfl) ?_; clear S a; intro a S
  refine st_split (t := 18) S rfl ?_ ?_
  · clear S; intro h18 S
    refine st_no S rfl rfl rfl ?_; clear S a; intro a S
    refine st_go [0, 0, 1, 1, 0] S rfl (by kernel_rfl) ?_; clear S a; intro a S
    refine st_no S rfl rfl rfl ?_; clear S a; intro a S
    refine st_go [0, 0, 1] S rfl (by kernel_rfl) ?_; clear S a; intro a S
    replace S := S.sub [(0, _), (2, _), (3, _), (4, _), (5, _), (28, _)] rfl
    refine nxC ?_
    refine st_condT S rfl ?_
    refine wp_seq ?_
    first | replace M := M.grow hK | skip
    refine wp_region_lit ?_
    refine st_y S rfl rfl rfl (y_build (ps := []) (pl := [(0, 1), (1, 1), (2, 1), (3, 1), (4, 1), (5, 3), (8, 1), (9, 1), (10, 1), (11, 8), (19, 1), (20, 1), (21, 1), (22, 1), (23, 1)]) (z := [.int .i8 0, .int .i64 0, .int .i64 0, .int .i64 0, .int .i64 0, .int .i64 0, .int .i64 0, .int .i64 0, .int .i64 0, .int .i8 0, .int .i64 0, .int .u8 0, .int .u8 0, .int .u8 0, .int .u8 0, .int .u8 0, .int .u8 0, .int .u8 0, .int .u8 0, .int .i64 0, .bool false, .int .i64 0, .int .i64 0, .slice none 0 0]) (cs := [_, _, _, _, _, _, _, _, _, _, _, _, _, _, _, _, _, _, _, _, _, _, _, _]) S (by kernel_rfl) rfl (rfl)) ?_; clear S a; intro a S
    refine st_store (sz := 24) (us := [_, _, _, _, _, _, _, _, _, _, _, _, _, _, _, _, _, _, _, _, _, _, _, _]) S M 0 rfl (by kernel_rfl) rfl rfl rfl rfl rfl rfl (by first | decide | (simp; done) | (simp; omega)) ?_; clear M; intro w3 M
    simp only [putL, List.set_cons_zero, List.set_cons_succ, Nat.reduceAdd] at M
    refine st_go [1] S rfl (by kernel_rfl) ?_; clear S a; intro a S
    refine nxC ?_
    refine wp_ret ?_
    refine then_ret ?_
    refine end_two S rfl (res_agg (cs := [_, _, _, _, _, _, _, _, _, _, _, _, _, _, _, _, _, _, _, _, _, _, _, _]) (by kernel_rfl) rfl rfl (M.cellsAt (k := 24) 0 rfl rfl)) (res_tmp rfl) ?_
    refine readM_no M (fun m x hm he => ?_)
    first
      | (rw [openB_true ⟨_, he.symm⟩] at h18; simp at h18; done)
      | (have e := hif hm he
         have hl : (m.enc x).length = 9 + (bodyP (khas m.kind) m x 10).length := by unfold Msg.enc; rw [List.length_append, hdB_len]
         have h0 : (m.enc x)[0]? = some (byteOf m.kind) := by unfold Msg.enc hdB; rw [leB1]; rfl
         have hk := (may_head hm).1
         have hbo := byteOf_toNat m.kind
         rw [e] at hl h0
         first
           | (exfalso; rw [hb0] at h0; have h1 := Option.some.inj h0; rw [h1] at h28; omega)
           | (have : body.length = 0 := by (first | simpa using h23 | omega)
              omega))
  clear S; intro h18 S
  have hok : openOk bs := by
    apply Classical.byContradiction; intro h; rw [openB_false h] at h18; simp at h18
  obtain ⟨body, hbody⟩ := hok
  have hF := hyes ⟨body, hbody⟩
  have hbl : bs.length = body.length + 4 := by rw [hbody]; simp [sealB, sum4]
  have hbt : bs.take (bs.length - 4) = body := by rw [hbl, hbody]; simp [sealB]
  rw [hbt] at hF
  have hif : ∀ {m : Msg} {x : List Wr}, m.may x = true → sealB (m.enc x) = bs → m.enc x = body := fun _ he => sealB_inj (he.trans hbody)
  obtain ⟨lo, hi, -, M⟩ := M.pushFresh hF
  obtain ⟨ba, bc, rfl, -, -⟩ := (M.readRow 0 rfl (by unfold maxLen; omega)).form
  replace M : Mem w w2 (lfE lo hi (.slice ba body.length bc) body :: _) := M.ownMono fun w h => Rd.of_row h.1 h.2 (by unfold maxLen; omega)
  refine st_y S rfl rfl rfl (y_move S rfl) ?_; clear S a; intro a S
  refine st_y S rfl rfl rfl (y_lenR (E := 5) S rfl (M.own 0 rfl) (by kernel_rfl)) ?_; clear S a; intro a S
  refine st_go [1, 1, 1] S rfl (by kernel_rfl) ?_; clear S a; intro a S
  refine st_split (t := 23) S rfl ?_ ?_
  · clear S; intro h23 S
    refine st_go [0] S rfl (by kernel_rfl) ?_; clear S a; intro a S
    refine st_no S rfl rfl rfl ?_; clear S a; intro a S
    refine st_go [0, 0, 1] S rfl (by kernel_rfl) ?_; clear S a; intro a S
    replace S := S.sub [(0, _), (2, _), (3, _), (4, _), (5, _), (28, _)] rfl
    refine nxC ?_
    refine st_condT S rfl ?_
    refine wp_seq ?_
    first | replace M := M.grow hK | skip
    refine wp_region_lit ?_
    refine st_y S rfl rfl rfl (y_build (ps := []) (pl := [(0, 1), (1, 1), (2, 1), (3, 1), (4, 1), (5, 3), (8, 1), (9, 1), (10, 1), (11, 8), (19, 1), (20, 1), (21, 1), (22, 1), (23, 1)]) (z := [.int .i8 0, .int .i64 0, .int .i64 0, .int .i64 0, .int .i64 0, .int .i64 0, .int .i64 0, .int .i64 0, .int .i64 0, .int .i8 0, .int .i64 0, .int .u8 0, .int .u8 0, .int .u8 0, .int .u8 0, .int .u8 0, .int .u8 0, .int .u8 0, .int .u8 0, .int .i64 0, .bool false, .int .i64 0, .int .i64 0, .slice none 0 0]) (cs := [_, _, _, _, _, _, _, _, _, _, _, _, _, _, _, _, _, _, _, _, _, _, _, _]) S (by kernel_rfl) rfl (rfl)) ?_; clear S a; intro a S
    refine st_store (sz := 24) (us := [_, _, _, _, _, _, _, _, _, _, _, _, _, _, _, _, _, _, _, _, _, _, _, _]) S M 1 rfl (by kernel_rfl) rfl rfl rfl rfl rfl rfl (by first | decide | (simp; done) | (simp; omega)) ?_; clear M; intro w4 M
    simp only [putL, List.set_cons_zero, List.set_cons_succ, Nat.reduceAdd] at M
    refine st_go [1] S rfl (by kernel_rfl) ?_; clear S a; intro a S
    refine nxC ?_
    refine wp_ret ?_
    refine then_ret ?_
    refine end_two S rfl (res_agg (cs := [_, _, _, _, _, _, _, _, _, _, _, _, _, _, _, _, _, _, _, _, _, _, _, _]) (by kernel_rfl) rfl rfl (M.cellsAt (k := 24) 1 rfl rfl)) (res_tmp rfl) ?_
    refine readM_no M (fun m x hm he => ?_)
    first
      | (rw [openB_true ⟨_, he.symm⟩] at h18; simp at h18; done)
      | (have e := hif hm he
         have hl : (m.enc x).length = 9 + (bodyP (khas m.kind) m x 10).length := by unfold Msg.enc; rw [List.length_append, hdB_len]
         have h0 : (m.enc x)[0]? = some (byteOf m.kind) := by unfold Msg.enc hdB; rw [leB1]; rfl
         have hk := (may_head hm).1
         have hbo := byteOf_toNat m.kind
         rw [e] at hl h0
         first
           | (exfalso; rw [hb0] at h0; have h1 := Option.some.inj h0; rw [h1] at h28; omega)
           | (have : body.length = 0 := by (first | simpa using h23 | omega)
              omega))
  clear S; intro h23 S
  refine st_go [1] S rfl (by kernel_rfl) ?_; clear S a; intro a S
  have hnz : body.length ≠ 0 := by intro h; rw [h] at h23; simp at h23
  obtain ⟨b, hb0⟩ : ∃ b, body[0]? = some b := ⟨_, List.getElem?_eq_getElem (by omega)⟩
  refine st_y S rfl rfl rfl (y_indexR (e := 5) (sz := 1) S (by kernel_rfl) rfl (M.own 0 rfl) rfl (by first | omega | (simp; done) | (simp; omega))) ?_; clear S a; intro a S
  refine st_y S rfl rfl rfl (y_load S (by kernel_rfl) rfl ((M.own 0 rfl).byte (i := 0) hb0)) ?_; clear S a; intro a S
  refine st_go [1, 1] S rfl (by kernel_rfl) ?_; clear S a; intro a S
  replace S := S.sub [(0, _), (2, _), (3, _), (4, _), (5, _), (28, _)] rfl
  refine nxC ?_
  refine st_if (t := 28) S rfl ?_ ?_
  · clear S; intro h28 S
    refine st_condT S rfl ?_
    refine wp_seq ?_
    first | replace M := M.grow hK | skip
    refine wp_region_lit ?_
    refine st_y S rfl rfl rfl (y_build (ps := []) (pl := [(0, 1), (1, 1), (2, 1), (3, 1), (4, 1), (5, 3), (8, 1), (9, 1), (10, 1), (11, 8), (19, 1), (20, 1), (21, 1), (22, 1), (23, 1)]) (z := [.int .i8 0, .int .i64 0, .int .i64 0, .int .i64 0, .int .i64 0, .int .i64 0, .int .i64 0, .int .i64 0, .int .i64 0, .int .i8 0, .int .i64 0, .int .u8 0, .int .u8 0, .int .u8 0, .int .u8 0, .int .u8 0, .int .u8 0, .int .u8 0, .int .u8 0, .int .i64 0, .bool false, .int .i64 0, .int .i64 0, .slice none 0 0]) (cs := [_, _, _, _, _, _, _, _, _, _, _, _, _, _, _, _, _, _, _, _, _, _, _, _]) S (by kernel_rfl) rfl (rfl)) ?_; clear S a; intro a S
    refine st_store (sz := 24) (us := [_, _, _, _, _, _, _, _, _, _, _, _, _, _, _, _, _, _, _, _, _, _, _, _]) S M 1 rfl (by kernel_rfl) rfl rfl rfl rfl rfl rfl (by first | decide | (simp; done) | (simp; omega)) ?_; clear M; intro w5 M
    simp only [putL, List.set_cons_zero, List.set_cons_succ, Nat.reduceAdd] at M
    refine st_go [1] S rfl (by kernel_rfl) ?_; clear S a; intro a S
    refine nxC ?_
    refine wp_ret ?_
    refine then_ret ?_
    refine end_two S rfl (res_agg (cs := [_, _, _, _, _, _, _, _, _, _, _, _, _, _, _, _, _, _, _, _, _, _, _, _]) (by kernel_rfl) rfl rfl (M.cellsAt (k := 24) 1 rfl rfl)) (res_tmp rfl) ?_
    refine readM_no M (fun m x hm he => ?_)
    first
      | (rw [openB_true ⟨_, he.symm⟩] at h18; simp at h18; done)
      | (have e := hif hm he
         have hl : (m.enc x).length = 9 + (bodyP (khas m.kind) m x 10).length := by unfold Msg.enc; rw [List.length_append, hdB_len]
         have h0 : (m.enc x)[0]? = some (byteOf m.kind) := by unfold Msg.enc hdB; rw [leB1]; rfl
         have hk := (may_head hm).1
         have hbo := byteOf_toNat m.kind
         rw [e] at hl h0
         first
           | (exfalso; rw [hb0] at h0; have h1 := Option.some.inj h0; rw [h1] at h28; omega)
           | (have : body.length = 0 := by (first | simpa using h23 | omega)
              omega))
  clear S; intro h28 S
  refine st_condF S rfl ?_
  refine wp_skip ?_
  refine then_normal ?_
  refine wp_seq ?_
  have hb127 : b.toNat ≤ 127 := by omega
  have htk : tk body 1 ⟨0, false⟩ = ((b.toNat : Int), ⟨1, false⟩) := by
    unfold tk; rw [if_pos (by simp only; omega)]
    match body, hb0 with
    | c :: r, h => obtain rfl : c = b := by simpa using h
                   simp [leN]
  refine wp_region_lit ?_
  refine st_go [1] S rfl (by kernel_rfl) ?_; clear S a; intro a S
  refine st_y S rfl rfl rfl (y_build (ps := [(0, (Operand.tmp 30))]) (pl := [(0, 1), (1, 1), (2, 1)]) (z := [.slice none 0 0, .int .i64 0, .bool false]) (cs := [_, _, _]) S (by kernel_rfl) rfl (rfl)) ?_; clear S a; intro a S
  refine st_box S M rfl rfl rfl #[_, _, _] rfl ?_; clear S M a; intro a w6 bR S M hB
  refine st_go [1] S rfl (by kernel_rfl) ?_; clear S a; intro a S
  refine nxA ?_
  refine st_alloc S M rfl rfl #[.int .i8 0, .int .i64 0, .int .i64 0, .int .i64 0, .int .i64 0, .int .i64 0, .int .i64 0, .int .i64 0, .int .i64 0, .int .i8 0, .int .i64 0, .int .u8 0, .int .u8 0, .int .u8 0, .int .u8 0, .int .u8 0, .int .u8 0, .int .u8 0, .int .u8 0, .int .i64 0, .bool false, .int .i64 0, .int .i64 0, .slice none 0 0] (by kernel_rfl) ?_; clear S M a; intro a w7 bC S M hB
  refine nxC ?_
  refine wp_seq ?_
  replace M := M.front 2 rfl
  simp only [List.eraseIdx_cons_succ, List.eraseIdx_cons_zero] at M
  replace M := M.front 2 rfl
  simp only [List.eraseIdx_cons_succ, List.eraseIdx_cons_zero] at M
  refine wp_region_lit ?_
  refine st_go [1] S rfl (by kernel_rfl) ?_; clear S a; intro a S
  refine st_call (xs := [(Operand.tmp 33)]) S (enters_of Try.func45 (by decide) rfl) rfl rfl rfl (byteH_any (s := ⟨0, false⟩) (bs := body) M (RdH.own 0 rfl)) ?_
  rintro _ w8 ⟨rfl, M1⟩; refine ⟨_, rfl, ?_⟩; clear S a; intro a S; replace M := M1; clear M1
  refine st_y S rfl rfl rfl (y_conv (k' := .i8) S rfl (by kernel_rfl) (by kernel_rfl)) ?_; clear S a; intro a S
  refine st_go [1] S rfl (by kernel_rfl) ?_; clear S a; intro a S
  refine st_store (sz := 1) (us := [_]) S M 2 rfl (by kernel_rfl) rfl rfl rfl rfl rfl rfl (by first | decide | (simp; done) | (simp; omega)) ?_; clear M; intro w9 M
  simp only [putL, List.set_cons_zero, List.set_cons_succ, Nat.reduceAdd] at M
  refine nxA ?_
  refine st_go [1] S rfl (by kernel_rfl) ?_; clear S a; intro a S
  refine st_call (xs := [(Operand.tmp 37)]) S (enters_of Try.func45 (by decide) rfl) rfl rfl rfl (byteH_any (bs := body) M (RdH.own 0 rfl)) ?_
  rintro _ w10 ⟨rfl, M1⟩; refine ⟨_, rfl, ?_⟩; clear S a; intro a S; replace M := M1; clear M1
  refine st_go [2] S rfl (by kernel_rfl) ?_; clear S a; intro a S
  refine st_store (sz := 1) (us := [_]) S M 2 rfl (by kernel_rfl) rfl rfl rfl rfl rfl rfl (by first | decide | (simp; done) | (simp; omega)) ?_; clear M; intro w11 M
  simp only [putL, List.set_cons_zero, List.set_cons_succ, Nat.reduceAdd] at M
  refine nxA ?_
  refine st_go [1] S rfl (by kernel_rfl) ?_; clear S a; intro a S
  refine st_call (xs := [(Operand.tmp 40)]) S (enters_of Try.func45 (by decide) rfl) rfl rfl rfl (byteH_any (bs := body) M (RdH.own 0 rfl)) ?_
  rintro _ w12 ⟨rfl, M1⟩; refine ⟨_, rfl, ?_⟩; clear S a; intro a S; replace M := M1; clear M1
  refine st_go [3] S rfl (by kernel_rfl) ?_; clear S a; intro a S
  refine st_store (sz := 1) (us := [_]) S M 2 rfl (by kernel_rfl) rfl rfl rfl rfl rfl rfl (by first | decide | (simp; done) | (simp; omega)) ?_; clear M; intro w13 M
  simp only [putL, List.set_cons_zero, List.set_cons_succ, Nat.reduceAdd] at M
  refine nxA ?_
  refine st_go [1] S rfl (by kernel_rfl) ?_; clear S a; intro a S
  refine st_call (xs := [(Operand.tmp 43)]) S (enters_of Try.func46 (by decide) rfl) rfl rfl rfl (threeH_any (bs := body) M (RdH.own 0 rfl)) ?_
  rintro _ w14 ⟨rfl, M1⟩; refine ⟨_, rfl, ?_⟩; clear S a; intro a S; replace M := M1; clear M1
  refine st_go [4] S rfl (by kernel_rfl) ?_; clear S a; intro a S
  refine st_store (sz := 1) (us := [_]) S M 2 rfl (by kernel_rfl) rfl rfl rfl rfl rfl rfl (by first | decide | (simp; done) | (simp; omega)) ?_; clear M; intro w15 M
  simp only [putL, List.set_cons_zero, List.set_cons_succ, Nat.reduceAdd] at M
  replace S := S.sub [(0, _), (2, _), (3, _), (4, _), (5, _), (28, _), (6, _), (7, _)] rfl
  refine nxA ?_
  refine st_go [1] S rfl (by kernel_rfl) ?_; clear S a; intro a S
  refine st_call (xs := [(Operand.tmp 46)]) S (enters_of Try.func46 (by decide) rfl) rfl rfl rfl (threeH_any (bs := body) M (RdH.own 0 rfl)) ?_
  rintro _ w16 ⟨rfl, M1⟩; refine ⟨_, rfl, ?_⟩; clear S a; intro a S; replace M := M1; clear M1
  refine st_go [5] S rfl (by kernel_rfl) ?_; clear S a; intro a S
  refine st_store (sz := 1) (us := [_]) S M 2 rfl (by kernel_rfl) rfl rfl rfl rfl rfl rfl (by first | decide | (simp; done) | (simp; omega)) ?_; clear M; intro w17 M
  simp only [putL, List.set_cons_zero, List.set_cons_succ, Nat.reduceAdd] at M
  refine nxC ?_
  refine wp_cut (fun a w' => Sees 153 a [(2, .pointer (some ⟨bO, 0, none⟩)), (4, .slice ba body.length bc), (6, .pointer (some ⟨bR, 0, none⟩)), (7, .pointer (some ⟨bC, 0, none⟩))] ∧ Mem w w' [.blk bR (rdC (.slice ba body.length bc) (rNa body (rHd body)).2) 87, lfE lo hi (.slice ba body.length bc) body, .blk bC ((rNa body (rHd body)).1.cells (.slice none 0 0)) 42, .blk bO (zM.cells (.slice none 0 0)) 42]) ?_ ?_
  · skip
    refine wp_seq ?_
    replace M : Mem w w17 [.blk bR (rdC (.slice ba body.length bc) (rHd body).2) 87, lfE lo hi (.slice ba body.length bc) body, .blk bC ((rHd body).1.cells (.slice none 0 0)) 42, .blk bO (zM.cells (.slice none 0 0)) 42] := M
    obtain ⟨p0, hp0⟩ : ∃ p0, rHd body = p0 := ⟨_, rfl⟩
    rw [hp0] at M
    refine wp_region_lit ?_
    refine st_run [1, 3, 1, 1] S M rfl (by kernel_rfl) ?_; clear S a; intro a S
    refine st_fi (t := 52) S rfl ?_ ?_
    · clear S; intro h52 S
      refine st_go [0, 0, 0, 1] S rfl (by kernel_rfl) ?_; clear S a; intro a S
      refine nxC ?_
      refine st_condF S rfl ?_
      refine wp_skip ?_
      refine then_normal ?_
      refine ⟨S.sub _ rfl, ?_⟩
      rw [hp0]
      unfold rNa
      first
        | (rw [if_pos ⟨h52, h56⟩]; exact M)
        | (rw [if_neg (by intro hh; omega)]; exact M)
    clear S; intro h52 S
    refine st_run [1, 3, 1, 1] S M rfl (by kernel_rfl) ?_; clear S a; intro a S
    refine nxC ?_
    refine st_fi (t := 56) S rfl ?_ ?_
    · clear S; intro h56 S
      refine st_condF S rfl ?_
      refine wp_skip ?_
      refine then_normal ?_
      refine ⟨S.sub _ rfl, ?_⟩
      rw [hp0]
      unfold rNa
      first
        | (rw [if_pos ⟨h52, h56⟩]; exact M)
        | (rw [if_neg (by intro hh; omega)]; exact M)
    clear S; intro h56 S
    refine st_condT S rfl ?_
    refine wp_region_lit ?_
    refine st_go [1] S rfl (by kernel_rfl) ?_; clear S a; intro a S
    refine st_call (xs := [(Operand.tmp 57)]) S (enters_of Try.func47 (by decide) rfl) rfl rfl rfl (nameH_any (bs := body) M (RdH.own 0 rfl)) ?_
    rintro _ w18 ⟨rfl, M1⟩; refine ⟨_, rfl, ?_⟩; clear S a; intro a S; replace M := M1; clear M1
    refine st_go [6] S rfl (by kernel_rfl) ?_; clear S a; intro a S
    refine st_store (sz := 3) (us := [_, _, _]) S M 2 rfl (by kernel_rfl) rfl rfl rfl rfl rfl rfl (by first | decide | (simp; done) | (simp; omega)) ?_; clear M; intro w19 M
    simp only [putL, List.set_cons_zero, List.set_cons_succ, Nat.reduceAdd] at M
    refine nxC ?_
    refine ⟨S.sub _ rfl, ?_⟩
    rw [hp0]
    unfold rNa
    first
      | (rw [if_pos ⟨h52, h56⟩]; exact M)
      | (rw [if_neg (by intro hh; omega)]; exact M)
  clear S a M; intro a wc
  rintro ⟨S, M⟩
  obtain ⟨p1, hp1⟩ : ∃ p1, rNa body (rHd body) = p1 := ⟨_, rfl⟩
  rw [hp1] at M
  have hrM : rMs body = rSw body p1 := by rw [← hp1]; rfl
  refine wp_cut (fun a w' => Sees 153 a [(2, .pointer (some ⟨bO, 0, none⟩)), (4, .slice ba body.length bc), (6, .pointer (some ⟨bR, 0, none⟩)), (7, .pointer (some ⟨bC, 0, none⟩))] ∧ ∃ vx xlo xhi, Mem w w' [.blk bR (rdC (.slice ba body.length bc) (rSw body p1).2.2) 87, lfE lo hi (.slice ba body.length bc) body, .blk bC ((rSw body p1).1.cells vx) 42, rowE xlo xhi 72 9 vx (rSw body p1).2.1.length (wcells (rSw body p1).2.1), .blk bO (zM.cells (.slice none 0 0)) 42]) ?_ ?_
  · skip
    refine nxD ?_
    refine st_run [1, 3] S M rfl (by kernel_rfl) ?_; clear S a; intro a S
    refine nxC ?_
    refine wp_block ?_
    refine nxD ?_
    refine st_go [1, 1] S rfl (by kernel_rfl) ?_; clear S a; intro a S
    refine nxC ?_
    refine st_if (t := 62) S rfl ?_ ?_
    · clear S; intro h62 S
      refine st_condT S rfl ?_
      refine nxD ?_
      refine st_go [1] S rfl (by kernel_rfl) ?_; clear S a; intro a S
      refine st_call (xs := [(Operand.tmp 64)]) S (enters_of Try.func46 (by decide) rfl) rfl rfl rfl (threeH_any (bs := body) M (RdH.own 0 rfl)) ?_
      rintro _ w20 ⟨rfl, M1⟩; refine ⟨_, rfl, ?_⟩; clear S a; intro a S; replace M := M1; clear M1
      refine st_go [9] S rfl (by kernel_rfl) ?_; clear S a; intro a S
      refine st_store (sz := 1) (us := [_]) S M 2 rfl (by kernel_rfl) rfl rfl rfl rfl rfl rfl (by first | decide | (simp; done) | (simp; omega)) ?_; clear M; intro w21 M
      simp only [putL, List.set_cons_zero, List.set_cons_succ, Nat.reduceAdd] at M
      refine nxA ?_
      refine st_go [1] S rfl (by kernel_rfl) ?_; clear S a; intro a S
      refine st_call (xs := [(Operand.tmp 67)]) S (enters_of Try.func45 (by decide) rfl) rfl rfl rfl (byteH_any (bs := body) M (RdH.own 0 rfl)) ?_
      rintro _ w22 ⟨rfl, M1⟩; refine ⟨_, rfl, ?_⟩; clear S a; intro a S; replace M := M1; clear M1
      refine st_go [1] S rfl (by kernel_rfl) ?_; clear S a; intro a S
      refine nxA ?_
      refine st_run [1, 1, 1, 3, 1, 1] S M rfl (by kernel_rfl) ?_; clear S a; intro a S
      refine st_split (t := 74) S rfl ?_ ?_
      · clear S; intro h74 S
        refine st_go [0, 0, 1, 1, 3] S rfl (by kernel_rfl) ?_; clear S a; intro a S
        refine st_store (sz := 1) (us := [_]) S M 0 rfl (by kernel_rfl) rfl rfl rfl rfl rfl rfl (by first | decide | (simp; done) | (simp; omega)) ?_; clear M; intro w23 M
        simp only [putL, List.set_cons_zero, List.set_cons_succ, Nat.reduceAdd] at M
        replace S := S.sub [(2, _), (4, _), (6, _), (7, _), (61, _), (62, _), (8, _)] rfl
        refine nxC ?_
        refine wp_seq ?_
        replace M := M.blkEq (c' := rdC (.slice ba body.length bc) (rOp body (r3 body p1.2).2).2) 0 rfl (by unfold rOp; simp [rdC, h74])
        simp only [List.set_cons_zero, List.set_cons_succ] at M
        refine wp_region_lit ?_
        refine st_go [1] S rfl (by kernel_rfl) ?_; clear S a; intro a S
        refine st_y S rfl rfl rfl (y_int S rfl rfl rfl) ?_; clear S a; intro a S
        skip
        refine st_y S rfl rfl rfl (y_conv (k' := .i8) S rfl (by kernel_rfl) (by kernel_rfl)) ?_; clear S a; intro a S
        rw [and127 (tk1_bd body _)] at S
        refine st_y S rfl rfl rfl (y_fieldAddr (k := 9) S (by kernel_rfl) rfl) ?_; clear S a; intro a S
        refine st_store (sz := 1) (us := [_]) S M 2 rfl (by kernel_rfl) rfl rfl rfl rfl rfl rfl (by first | decide | (simp; done) | (simp; omega)) ?_; clear M; intro w24 M
        simp only [putL, List.set_cons_zero, List.set_cons_succ, Nat.reduceAdd] at M
        refine nxA ?_
        refine st_go [1] S rfl (by kernel_rfl) ?_; clear S a; intro a S
        refine st_call (xs := [(Operand.tmp 84)]) S (enters_of Try.func45 (by decide) rfl) rfl rfl rfl (byteH_any (bs := body) M (RdH.own 0 rfl)) ?_
        rintro _ w25 ⟨rfl, M1⟩; refine ⟨_, rfl, ?_⟩; clear S a; intro a S; replace M := M1; clear M1
        refine st_go [11] S rfl (by kernel_rfl) ?_; clear S a; intro a S
        refine st_store (sz := 1) (us := [_]) S M 2 rfl (by kernel_rfl) rfl rfl rfl rfl rfl rfl (by first | decide | (simp; done) | (simp; omega)) ?_; clear M; intro w26 M
        simp only [putL, List.set_cons_zero, List.set_cons_succ, Nat.reduceAdd] at M
        refine nxB ?_
        refine st_go [1] S rfl (by kernel_rfl) ?_; clear S a; intro a S
        refine st_call (xs := [(Operand.tmp 87)]) S (enters_of Try.func48 (by decide) rfl) rfl rfl rfl (valueH_any (bs := body) M (RdH.own 0 rfl)) ?_
        rintro _ w27 ⟨rfl, M1⟩; refine ⟨_, rfl, ?_⟩; clear S a; intro a S; replace M := M1; clear M1
        refine st_go [12] S rfl (by kernel_rfl) ?_; clear S a; intro a S
        refine st_store (sz := 8) (us := [_, _, _, _, _, _, _, _]) S M 2 rfl (by kernel_rfl) rfl rfl rfl rfl rfl rfl (by first | decide | (simp; done) | (simp; omega)) ?_; clear M; intro w28 M
        simp only [putL, List.set_cons_zero, List.set_cons_succ, Nat.reduceAdd] at M
        refine wpList_nil ?_
        refine block_normal ?_
        refine then_normal ?_
        refine ⟨S.sub _ rfl, ?_⟩
        unfold rSw
        first
          | (rw [if_pos h62]; exact ⟨_, _, _, ((((M.rowNil 72 9).front 3 rfl).front 3 rfl).front 3 rfl)⟩)
          | (rw [if_neg h62, if_pos h90]; exact ⟨_, _, _, ((((M.rowNil 72 9).front 3 rfl).front 3 rfl).front 3 rfl)⟩)
          | (rw [if_neg h62, if_neg h90, if_pos h106]; exact ⟨_, _, _, (((M.front 3 rfl).front 3 rfl).front 3 rfl)⟩)
          | (rw [if_neg h62, if_neg h90, if_neg h106, if_pos (by omega)]; exact ⟨_, _, _, ((((M.rowNil 72 9).front 3 rfl).front 3 rfl).front 3 rfl)⟩)
          | (rw [if_neg h62, if_neg h90, if_neg h106, if_neg (by omega), if_pos h123]; exact ⟨_, _, _, ((((M.rowNil 72 9).front 3 rfl).front 3 rfl).front 3 rfl)⟩)
          | (rw [if_neg h62, if_neg h90, if_neg h106, if_neg (by omega), if_neg h123]; exact ⟨_, _, _, ((((M.rowNil 72 9).front 3 rfl).front 3 rfl).front 3 rfl)⟩)
      clear S; intro h74 S
      refine st_go [1, 1, 1, 1, 3] S rfl (by kernel_rfl) ?_; clear S a; intro a S
      refine st_store (sz := 1) (us := [_]) S M 0 rfl (by kernel_rfl) rfl rfl rfl rfl rfl rfl (by first | decide | (simp; done) | (simp; omega)) ?_; clear M; intro w29 M
      simp only [putL, List.set_cons_zero, List.set_cons_succ, Nat.reduceAdd] at M
      replace S := S.sub [(2, _), (4, _), (6, _), (7, _), (61, _), (62, _), (8, _)] rfl
      refine nxC ?_
      refine wp_seq ?_
      replace M := M.blkEq (c' := rdC (.slice ba body.length bc) (rOp body (r3 body p1.2).2).2) 0 rfl (by unfold rOp; simp [rdC, h74])
      simp only [List.set_cons_zero, List.set_cons_succ] at M
      refine wp_region_lit ?_
      refine st_go [1] S rfl (by kernel_rfl) ?_; clear S a; intro a S
      refine st_y S rfl rfl rfl (y_int S rfl rfl rfl) ?_; clear S a; intro a S
      skip
      refine st_y S rfl rfl rfl (y_conv (k' := .i8) S rfl (by kernel_rfl) (by kernel_rfl)) ?_; clear S a; intro a S
      rw [and127 (tk1_bd body _)] at S
      refine st_y S rfl rfl rfl (y_fieldAddr (k := 9) S (by kernel_rfl) rfl) ?_; clear S a; intro a S
      refine st_store (sz := 1) (us := [_]) S M 2 rfl (by kernel_rfl) rfl rfl rfl rfl rfl rfl (by first | decide | (simp; done) | (simp; omega)) ?_; clear M; intro w30 M
      simp only [putL, List.set_cons_zero, List.set_cons_succ, Nat.reduceAdd] at M
      refine nxA ?_
      refine st_go [1] S rfl (by kernel_rfl) ?_; clear S a; intro a S
      refine st_call (xs := [(Operand.tmp 84)]) S (enters_of Try.func45 (by decide) rfl) rfl rfl rfl (byteH_any (bs := body) M (RdH.own 0 rfl)) ?_
      rintro _ w31 ⟨rfl, M1⟩; refine ⟨_, rfl, ?_⟩; clear S a; intro a S; replace M := M1; clear M1
      refine st_go [11] S rfl (by kernel_rfl) ?_; clear S a; intro a S
      refine st_store (sz := 1) (us := [_]) S M 2 rfl (by kernel_rfl) rfl rfl rfl rfl rfl rfl (by first | decide | (simp; done) | (simp; omega)) ?_; clear M; intro w32 M
      simp only [putL, List.set_cons_zero, List.set_cons_succ, Nat.reduceAdd] at M
      refine nxB ?_
      refine st_go [1] S rfl (by kernel_rfl) ?_; clear S a; intro a S
      refine st_call (xs := [(Operand.tmp 87)]) S (enters_of Try.func48 (by decide) rfl) rfl rfl rfl (valueH_any (bs := body) M (RdH.own 0 rfl)) ?_
      rintro _ w33 ⟨rfl, M1⟩; refine ⟨_, rfl, ?_⟩; clear S a; intro a S; replace M := M1; clear M1
      refine st_go [12] S rfl (by kernel_rfl) ?_; clear S a; intro a S
      refine st_store (sz := 8) (us := [_, _, _, _, _, _, _, _]) S M 2 rfl (by kernel_rfl) rfl rfl rfl rfl rfl rfl (by first | decide | (simp; done) | (simp; omega)) ?_; clear M; intro w34 M
      simp only [putL, List.set_cons_zero, List.set_cons_succ, Nat.reduceAdd] at M
      refine wpList_nil ?_
      refine block_normal ?_
      refine then_normal ?_
      refine ⟨S.sub _ rfl, ?_⟩
      unfold rSw
      first
        | (rw [if_pos h62]; exact ⟨_, _, _, ((((M.rowNil 72 9).front 3 rfl).front 3 rfl).front 3 rfl)⟩)
        | (rw [if_neg h62, if_pos h90]; exact ⟨_, _, _, ((((M.rowNil 72 9).front 3 rfl).front 3 rfl).front 3 rfl)⟩)
        | (rw [if_neg h62, if_neg h90, if_pos h106]; exact ⟨_, _, _, (((M.front 3 rfl).front 3 rfl).front 3 rfl)⟩)
        | (rw [if_neg h62, if_neg h90, if_neg h106, if_pos (by omega)]; exact ⟨_, _, _, ((((M.rowNil 72 9).front 3 rfl).front 3 rfl).front 3 rfl)⟩)
        | (rw [if_neg h62, if_neg h90, if_neg h106, if_neg (by omega), if_pos h123]; exact ⟨_, _, _, ((((M.rowNil 72 9).front 3 rfl).front 3 rfl).front 3 rfl)⟩)
        | (rw [if_neg h62, if_neg h90, if_neg h106, if_neg (by omega), if_neg h123]; exact ⟨_, _, _, ((((M.rowNil 72 9).front 3 rfl).front 3 rfl).front 3 rfl)⟩)
    clear S; intro h62 S
    refine st_condF S rfl ?_
    refine nxD ?_
    refine st_go [1, 1] S rfl (by kernel_rfl) ?_; clear S a; intro a S
    refine nxC ?_
    refine st_if (t := 90) S rfl ?_ ?_
    · clear S; intro h90 S
      refine st_condT S rfl ?_
      refine nxD ?_
      refine st_go [1] S rfl (by kernel_rfl) ?_; clear S a; intro a S
      refine st_call (xs := [(Operand.tmp 92)]) S (enters_of Try.func46 (by decide) rfl) rfl rfl rfl (threeH_any (bs := body) M (RdH.own 0 rfl)) ?_
      rintro _ w35 ⟨rfl, M1⟩; refine ⟨_, rfl, ?_⟩; clear S a; intro a S; replace M := M1; clear M1
      refine st_go [9] S rfl (by kernel_rfl) ?_; clear S a; intro a S
      refine st_store (sz := 1) (us := [_]) S M 2 rfl (by kernel_rfl) rfl rfl rfl rfl rfl rfl (by first | decide | (simp; done) | (simp; omega)) ?_; clear M; intro w36 M
      simp only [putL, List.set_cons_zero, List.set_cons_succ, Nat.reduceAdd] at M
      refine nxA ?_
      refine st_go [1] S rfl (by kernel_rfl) ?_; clear S a; intro a S
      refine st_call (xs := [(Operand.tmp 95)]) S (enters_of Try.func48 (by decide) rfl) rfl rfl rfl (valueH_any (bs := body) M (RdH.own 0 rfl)) ?_
      rintro _ w37 ⟨rfl, M1⟩; refine ⟨_, rfl, ?_⟩; clear S a; intro a S; replace M := M1; clear M1
      refine st_go [12] S rfl (by kernel_rfl) ?_; clear S a; intro a S
      refine st_store (sz := 8) (us := [_, _, _, _, _, _, _, _]) S M 2 rfl (by kernel_rfl) rfl rfl rfl rfl rfl rfl (by first | decide | (simp; done) | (simp; omega)) ?_; clear M; intro w38 M
      simp only [putL, List.set_cons_zero, List.set_cons_succ, Nat.reduceAdd] at M
      refine nxA ?_
      refine st_go [1] S rfl (by kernel_rfl) ?_; clear S a; intro a S
      refine st_call (xs := [(Operand.tmp 98)]) S (enters_of Try.func45 (by decide) rfl) rfl rfl rfl (byteH_any (bs := body) M (RdH.own 0 rfl)) ?_
      rintro _ w39 ⟨rfl, M1⟩; refine ⟨_, rfl, ?_⟩; clear S a; intro a S; replace M := M1; clear M1
      refine st_go [1] S rfl (by kernel_rfl) ?_; clear S a; intro a S
      refine nxB ?_
      refine st_go [1, 1] S rfl (by kernel_rfl) ?_; clear S a; intro a S
      refine st_call (xs := [(Operand.tmp 101)]) S (enters_of Try.func45 (by decide) rfl) rfl rfl rfl (byteH_any (bs := body) M (RdH.own 0 rfl)) ?_
      rintro _ w40 ⟨rfl, M1⟩; refine ⟨_, rfl, ?_⟩; clear S a; intro a S; replace M := M1; clear M1
      (first | refine st_y S rfl rfl rfl (y_shlN S rfl rfl (by omega) (by have q1 := tk1_bd body p1.2; have q2 := tk1_bd body (tk body 1 p1.2).2; have q3 := tk1_bd body (tk body 1 (rdBs body 8 (r3 body p1.2).2).2).2; simp only [show ((8 : Int).toNat) = 8 from rfl]; omega)) ?_ | refine st_y S rfl rfl rfl (y_shl S rfl rfl (by omega)) ?_); clear S a; intro a S
      (first | refine st_y S rfl rfl rfl (y_addN S rfl rfl (by have q0 := tk1_bd body p1.2; have q1 := tk1_bd body (rdBs body 8 (r3 body p1.2).2).2; have q2 := tk1_bd body (tk body 1 p1.2).2; have q3 := tk1_bd body (tk body 1 (rdBs body 8 (r3 body p1.2).2).2).2; simp only [show ((8 : Int).toNat) = 8 from rfl]; omega)) ?_ | refine st_y S rfl rfl rfl (y_int S rfl rfl rfl) ?_); clear S a; intro a S
      refine st_go [20] S rfl (by kernel_rfl) ?_; clear S a; intro a S
      refine st_store (sz := 1) (us := [_]) S M 2 rfl (by kernel_rfl) rfl rfl rfl rfl rfl rfl (by first | decide | (simp; done) | (simp; omega)) ?_; clear M; intro w41 M
      simp only [putL, List.set_cons_zero, List.set_cons_succ, Nat.reduceAdd] at M
      replace S := S.sub [(2, _), (4, _), (6, _), (7, _), (61, _), (62, _), (90, _), (9, _)] rfl
      refine wpList_nil ?_
      refine block_normal ?_
      refine then_normal ?_
      refine ⟨S.sub _ rfl, ?_⟩
      unfold rSw
      first
        | (rw [if_pos h62]; exact ⟨_, _, _, ((((M.rowNil 72 9).front 3 rfl).front 3 rfl).front 3 rfl)⟩)
        | (rw [if_neg h62, if_pos h90]; exact ⟨_, _, _, ((((M.rowNil 72 9).front 3 rfl).front 3 rfl).front 3 rfl)⟩)
        | (rw [if_neg h62, if_neg h90, if_pos h106]; exact ⟨_, _, _, (((M.front 3 rfl).front 3 rfl).front 3 rfl)⟩)
        | (rw [if_neg h62, if_neg h90, if_neg h106, if_pos (by omega)]; exact ⟨_, _, _, ((((M.rowNil 72 9).front 3 rfl).front 3 rfl).front 3 rfl)⟩)
        | (rw [if_neg h62, if_neg h90, if_neg h106, if_neg (by omega), if_pos h123]; exact ⟨_, _, _, ((((M.rowNil 72 9).front 3 rfl).front 3 rfl).front 3 rfl)⟩)
        | (rw [if_neg h62, if_neg h90, if_neg h106, if_neg (by omega), if_neg h123]; exact ⟨_, _, _, ((((M.rowNil 72 9).front 3 rfl).front 3 rfl).front 3 rfl)⟩)
    clear S; intro h90 S
    refine st_condF S rfl ?_
    refine nxD ?_
    refine st_go [1, 1] S rfl (by kernel_rfl) ?_; clear S a; intro a S
    refine nxC ?_
    refine st_if (t := 106) S rfl ?_ ?_
    · clear S; intro h106 S
      refine st_condT S rfl ?_
      refine nxD ?_
      refine st_go [1] S rfl (by kernel_rfl) ?_; clear S a; intro a S
      refine st_call (xs := [(Operand.tmp 108)]) S (enters_of Try.func45 (by decide) rfl) rfl rfl rfl (byteH_any (bs := body) M (RdH.own 0 rfl)) ?_
      rintro _ w42 ⟨rfl, M1⟩; refine ⟨_, rfl, ?_⟩; clear S a; intro a S; replace M := M1; clear M1
      refine st_go [22] S rfl (by kernel_rfl) ?_; clear S a; intro a S
      refine st_store (sz := 1) (us := [_]) S M 2 rfl (by kernel_rfl) rfl rfl rfl rfl rfl rfl (by first | decide | (simp; done) | (simp; omega)) ?_; clear M; intro w43 M
      simp only [putL, List.set_cons_zero, List.set_cons_succ, Nat.reduceAdd] at M
      refine nxA ?_
      refine st_go [1] S rfl (by kernel_rfl) ?_; clear S a; intro a S
      refine st_call (xs := [(Operand.tmp 111)]) S (enters_of Try.func45 (by decide) rfl) rfl rfl rfl (byteH_any (bs := body) M (RdH.own 0 rfl)) ?_
      rintro _ w44 ⟨rfl, M1⟩; refine ⟨_, rfl, ?_⟩; clear S a; intro a S; replace M := M1; clear M1
      refine st_go [23] S rfl (by kernel_rfl) ?_; clear S a; intro a S
      refine st_store (sz := 1) (us := [_]) S M 2 rfl (by kernel_rfl) rfl rfl rfl rfl rfl rfl (by first | decide | (simp; done) | (simp; omega)) ?_; clear M; intro w45 M
      simp only [putL, List.set_cons_zero, List.set_cons_succ, Nat.reduceAdd] at M
      refine nxB ?_
      refine st_go [1] S rfl (by kernel_rfl) ?_; clear S a; intro a S
      refine st_call (xs := [(Operand.tmp 114)]) S (enters_of Try.func49 (by decide) rfl) rfl rfl rfl (writesH_any (bs := body) M (RdH.own 0 rfl)) ?_
      rintro _ w46 ⟨vx, xlo, xhi, rfl, M1⟩; refine ⟨_, rfl, ?_⟩; clear S a; intro a S; replace M := M1; clear M1
      obtain ⟨xa, xc, rfl, -, -⟩ := (M.readRow 0 rfl (by have := rWs_len body (tk body 1 (tk body 1 p1.2).2).2; unfold maxLen; omega)).form
      refine st_go [24] S rfl (by kernel_rfl) ?_; clear S a; intro a S
      refine st_store (sz := 1) (us := [_]) S M 3 rfl (by kernel_rfl) rfl rfl rfl rfl rfl rfl (by first | decide | (simp; done) | (simp; omega)) ?_; clear M; intro w47 M
      simp only [putL, List.set_cons_zero, List.set_cons_succ, Nat.reduceAdd] at M
      refine wpList_nil ?_
      refine block_normal ?_
      refine then_normal ?_
      refine ⟨S.sub _ rfl, ?_⟩
      unfold rSw
      first
        | (rw [if_pos h62]; exact ⟨_, _, _, ((((M.rowNil 72 9).front 3 rfl).front 3 rfl).front 3 rfl)⟩)
        | (rw [if_neg h62, if_pos h90]; exact ⟨_, _, _, ((((M.rowNil 72 9).front 3 rfl).front 3 rfl).front 3 rfl)⟩)
        | (rw [if_neg h62, if_neg h90, if_pos h106]; exact ⟨_, _, _, (((M.front 3 rfl).front 3 rfl).front 3 rfl)⟩)
        | (rw [if_neg h62, if_neg h90, if_neg h106, if_pos (by omega)]; exact ⟨_, _, _, ((((M.rowNil 72 9).front 3 rfl).front 3 rfl).front 3 rfl)⟩)
        | (rw [if_neg h62, if_neg h90, if_neg h106, if_neg (by omega), if_pos h123]; exact ⟨_, _, _, ((((M.rowNil 72 9).front 3 rfl).front 3 rfl).front 3 rfl)⟩)
        | (rw [if_neg h62, if_neg h90, if_neg h106, if_neg (by omega), if_neg h123]; exact ⟨_, _, _, ((((M.rowNil 72 9).front 3 rfl).front 3 rfl).front 3 rfl)⟩)
    clear S; intro h106 S
    refine st_condF S rfl ?_
    refine wp_seq ?_
    refine nxD ?_
    refine st_go [1, 1] S rfl (by kernel_rfl) ?_; clear S a; intro a S
    refine nxC ?_
    refine st_if (t := 117) S rfl ?_ ?_
    · clear S; intro h117 S
      refine st_condT S rfl ?_
      refine wp_skip ?_
      refine then_normal ?_
      refine st_condT S rfl ?_
      refine wp_region_lit ?_
      refine st_go [1] S rfl (by kernel_rfl) ?_; clear S a; intro a S
      refine st_call (xs := [(Operand.tmp 120)]) S (enters_of Try.func50 (by decide) rfl) rfl rfl rfl (flagH_any (bs := body) M (RdH.own 0 rfl)) ?_
      rintro _ w48 ⟨rfl, M1⟩; refine ⟨_, rfl, ?_⟩; clear S a; intro a S; replace M := M1; clear M1
      refine st_go [21] S rfl (by kernel_rfl) ?_; clear S a; intro a S
      refine st_store (sz := 1) (us := [_]) S M 2 rfl (by kernel_rfl) rfl rfl rfl rfl rfl rfl (by first | decide | (simp; done) | (simp; omega)) ?_; clear M; intro w49 M
      simp only [putL, List.set_cons_zero, List.set_cons_succ, Nat.reduceAdd] at M
      refine wpList_nil ?_
      refine block_normal ?_
      refine then_normal ?_
      refine ⟨S.sub _ rfl, ?_⟩
      unfold rSw
      first
        | (rw [if_pos h62]; exact ⟨_, _, _, ((((M.rowNil 72 9).front 3 rfl).front 3 rfl).front 3 rfl)⟩)
        | (rw [if_neg h62, if_pos h90]; exact ⟨_, _, _, ((((M.rowNil 72 9).front 3 rfl).front 3 rfl).front 3 rfl)⟩)
        | (rw [if_neg h62, if_neg h90, if_pos h106]; exact ⟨_, _, _, (((M.front 3 rfl).front 3 rfl).front 3 rfl)⟩)
        | (rw [if_neg h62, if_neg h90, if_neg h106, if_pos (by omega)]; exact ⟨_, _, _, ((((M.rowNil 72 9).front 3 rfl).front 3 rfl).front 3 rfl)⟩)
        | (rw [if_neg h62, if_neg h90, if_neg h106, if_neg (by omega), if_pos h123]; exact ⟨_, _, _, ((((M.rowNil 72 9).front 3 rfl).front 3 rfl).front 3 rfl)⟩)
        | (rw [if_neg h62, if_neg h90, if_neg h106, if_neg (by omega), if_neg h123]; exact ⟨_, _, _, ((((M.rowNil 72 9).front 3 rfl).front 3 rfl).front 3 rfl)⟩)
    clear S; intro h117 S
    refine st_condF S rfl ?_
    refine wp_region_lit ?_
    refine st_go [1, 1] S rfl (by kernel_rfl) ?_; clear S a; intro a S
    refine nxC ?_
    refine st_if (t := 117) S rfl ?_ ?_
    · clear S; intro h117 S
      refine st_condT S rfl ?_
      refine wp_region_lit ?_
      refine st_go [1] S rfl (by kernel_rfl) ?_; clear S a; intro a S
      refine st_call (xs := [(Operand.tmp 120)]) S (enters_of Try.func50 (by decide) rfl) rfl rfl rfl (flagH_any (bs := body) M (RdH.own 0 rfl)) ?_
      rintro _ w50 ⟨rfl, M1⟩; refine ⟨_, rfl, ?_⟩; clear S a; intro a S; replace M := M1; clear M1
      refine st_go [21] S rfl (by kernel_rfl) ?_; clear S a; intro a S
      refine st_store (sz := 1) (us := [_]) S M 2 rfl (by kernel_rfl) rfl rfl rfl rfl rfl rfl (by first | decide | (simp; done) | (simp; omega)) ?_; clear M; intro w51 M
      simp only [putL, List.set_cons_zero, List.set_cons_succ, Nat.reduceAdd] at M
      refine wpList_nil ?_
      refine block_normal ?_
      refine then_normal ?_
      refine ⟨S.sub _ rfl, ?_⟩
      unfold rSw
      first
        | (rw [if_pos h62]; exact ⟨_, _, _, ((((M.rowNil 72 9).front 3 rfl).front 3 rfl).front 3 rfl)⟩)
        | (rw [if_neg h62, if_pos h90]; exact ⟨_, _, _, ((((M.rowNil 72 9).front 3 rfl).front 3 rfl).front 3 rfl)⟩)
        | (rw [if_neg h62, if_neg h90, if_pos h106]; exact ⟨_, _, _, (((M.front 3 rfl).front 3 rfl).front 3 rfl)⟩)
        | (rw [if_neg h62, if_neg h90, if_neg h106, if_pos (by omega)]; exact ⟨_, _, _, ((((M.rowNil 72 9).front 3 rfl).front 3 rfl).front 3 rfl)⟩)
        | (rw [if_neg h62, if_neg h90, if_neg h106, if_neg (by omega), if_pos h123]; exact ⟨_, _, _, ((((M.rowNil 72 9).front 3 rfl).front 3 rfl).front 3 rfl)⟩)
        | (rw [if_neg h62, if_neg h90, if_neg h106, if_neg (by omega), if_neg h123]; exact ⟨_, _, _, ((((M.rowNil 72 9).front 3 rfl).front 3 rfl).front 3 rfl)⟩)
    clear S; intro h117 S
    refine st_condF S rfl ?_
    refine nxD ?_
    refine st_go [1, 1] S rfl (by kernel_rfl) ?_; clear S a; intro a S
    refine nxC ?_
    refine st_fi (t := 123) S rfl ?_ ?_
    · clear S; intro h123 S
      refine st_condF S rfl ?_
      refine wp_skip ?_
      refine block_normal ?_
      refine then_normal ?_
      refine ⟨S.sub _ rfl, ?_⟩
      unfold rSw
      first
        | (rw [if_pos h62]; exact ⟨_, _, _, ((((M.rowNil 72 9).front 3 rfl).front 3 rfl).front 3 rfl)⟩)
        | (rw [if_neg h62, if_pos h90]; exact ⟨_, _, _, ((((M.rowNil 72 9).front 3 rfl).front 3 rfl).front 3 rfl)⟩)
        | (rw [if_neg h62, if_neg h90, if_pos h106]; exact ⟨_, _, _, (((M.front 3 rfl).front 3 rfl).front 3 rfl)⟩)
        | (rw [if_neg h62, if_neg h90, if_neg h106, if_pos (by omega)]; exact ⟨_, _, _, ((((M.rowNil 72 9).front 3 rfl).front 3 rfl).front 3 rfl)⟩)
        | (rw [if_neg h62, if_neg h90, if_neg h106, if_neg (by omega), if_pos h123]; exact ⟨_, _, _, ((((M.rowNil 72 9).front 3 rfl).front 3 rfl).front 3 rfl)⟩)
        | (rw [if_neg h62, if_neg h90, if_neg h106, if_neg (by omega), if_neg h123]; exact ⟨_, _, _, ((((M.rowNil 72 9).front 3 rfl).front 3 rfl).front 3 rfl)⟩)
    clear S; intro h123 S
    refine st_condT S rfl ?_
    refine nxD ?_
    refine st_go [1] S rfl (by kernel_rfl) ?_; clear S a; intro a S
    refine st_call (xs := [(Operand.tmp 125)]) S (enters_of Try.func45 (by decide) rfl) rfl rfl rfl (byteH_any (bs := body) M (RdH.own 0 rfl)) ?_
    rintro _ w52 ⟨rfl, M1⟩; refine ⟨_, rfl, ?_⟩; clear S a; intro a S; replace M := M1; clear M1
    refine st_go [1] S rfl (by kernel_rfl) ?_; clear S a; intro a S
    refine nxB ?_
    refine st_go [1, 1] S rfl (by kernel_rfl) ?_; clear S a; intro a S
    refine st_call (xs := [(Operand.tmp 128)]) S (enters_of Try.func45 (by decide) rfl) rfl rfl rfl (byteH_any (bs := body) M (RdH.own 0 rfl)) ?_
    rintro _ w53 ⟨rfl, M1⟩; refine ⟨_, rfl, ?_⟩; clear S a; intro a S; replace M := M1; clear M1
    (first | refine st_y S rfl rfl rfl (y_shlN S rfl rfl (by omega) (by have q1 := tk1_bd body p1.2; have q2 := tk1_bd body (tk body 1 p1.2).2; have q3 := tk1_bd body (tk body 1 (rdBs body 8 (r3 body p1.2).2).2).2; simp only [show ((8 : Int).toNat) = 8 from rfl]; omega)) ?_ | refine st_y S rfl rfl rfl (y_shl S rfl rfl (by omega)) ?_); clear S a; intro a S
    (first | refine st_y S rfl rfl rfl (y_addN S rfl rfl (by have q0 := tk1_bd body p1.2; have q1 := tk1_bd body (rdBs body 8 (r3 body p1.2).2).2; have q2 := tk1_bd body (tk body 1 p1.2).2; have q3 := tk1_bd body (tk body 1 (rdBs body 8 (r3 body p1.2).2).2).2; simp only [show ((8 : Int).toNat) = 8 from rfl]; omega)) ?_ | refine st_y S rfl rfl rfl (y_int S rfl rfl rfl) ?_); clear S a; intro a S
    refine st_go [20] S rfl (by kernel_rfl) ?_; clear S a; intro a S
    refine st_store (sz := 1) (us := [_]) S M 2 rfl (by kernel_rfl) rfl rfl rfl rfl rfl rfl (by first | decide | (simp; done) | (simp; omega)) ?_; clear M; intro w54 M
    simp only [putL, List.set_cons_zero, List.set_cons_succ, Nat.reduceAdd] at M
    replace S := S.sub [(2, _), (4, _), (6, _), (7, _), (61, _), (62, _), (90, _), (106, _), (117, _), (123, _), (10, _)] rfl
    refine wpList_nil ?_
    refine block_normal ?_
    refine then_normal ?_
    refine ⟨S.sub _ rfl, ?_⟩
    unfold rSw
    first
      | (rw [if_pos h62]; exact ⟨_, _, _, ((((M.rowNil 72 9).front 3 rfl).front 3 rfl).front 3 rfl)⟩)
      | (rw [if_neg h62, if_pos h90]; exact ⟨_, _, _, ((((M.rowNil 72 9).front 3 rfl).front 3 rfl).front 3 rfl)⟩)
      | (rw [if_neg h62, if_neg h90, if_pos h106]; exact ⟨_, _, _, (((M.front 3 rfl).front 3 rfl).front 3 rfl)⟩)
      | (rw [if_neg h62, if_neg h90, if_neg h106, if_pos (by omega)]; exact ⟨_, _, _, ((((M.rowNil 72 9).front 3 rfl).front 3 rfl).front 3 rfl)⟩)
      | (rw [if_neg h62, if_neg h90, if_neg h106, if_neg (by omega), if_pos h123]; exact ⟨_, _, _, ((((M.rowNil 72 9).front 3 rfl).front 3 rfl).front 3 rfl)⟩)
      | (rw [if_neg h62, if_neg h90, if_neg h106, if_neg (by omega), if_neg h123]; exact ⟨_, _, _, ((((M.rowNil 72 9).front 3 rfl).front 3 rfl).front 3 rfl)⟩)
  clear S a M; intro a wc
  rintro ⟨S, vx, xlo, xhi, M⟩
  have hpl := rSw_len body p1
  obtain ⟨p, hp⟩ : ∃ p, rSw body p1 = p := ⟨_, rfl⟩
  rw [hp] at M hpl hrM
  obtain ⟨xa, xc, rfl, -, -⟩ := (M.readRow 3 rfl (by unfold maxLen; omega)).form
  refine wp_seq ?_
  refine nxD ?_
  refine st_run [1, 1, 3, 1, 1] S M rfl (by kernel_rfl) ?_; clear S a; intro a S
  refine st_split (t := 137) S rfl ?_ ?_
  · clear S; intro h137 S
    refine st_go [0, 0, 0, 0, 0, 0, 0, 1, 1, 0, 0, 0, 1] S rfl (by kernel_rfl) ?_; clear S a; intro a S
    replace S := S.sub [(2, _), (4, _), (6, _), (7, _), (150, _)] rfl
    refine nxC ?_
    refine st_condT S rfl ?_
    refine nxD ?_
    refine st_y S rfl rfl rfl (y_build (ps := []) (pl := [(0, 1), (1, 1), (2, 1), (3, 1), (4, 1), (5, 3), (8, 1), (9, 1), (10, 1), (11, 8), (19, 1), (20, 1), (21, 1), (22, 1), (23, 1)]) (z := [.int .i8 0, .int .i64 0, .int .i64 0, .int .i64 0, .int .i64 0, .int .i64 0, .int .i64 0, .int .i64 0, .int .i64 0, .int .i8 0, .int .i64 0, .int .u8 0, .int .u8 0, .int .u8 0, .int .u8 0, .int .u8 0, .int .u8 0, .int .u8 0, .int .u8 0, .int .i64 0, .bool false, .int .i64 0, .int .i64 0, .slice none 0 0]) (cs := [_, _, _, _, _, _, _, _, _, _, _, _, _, _, _, _, _, _, _, _, _, _, _, _]) S (by kernel_rfl) rfl (rfl)) ?_; clear S a; intro a S
    refine st_store (sz := 24) (us := [_, _, _, _, _, _, _, _, _, _, _, _, _, _, _, _, _, _, _, _, _, _, _, _]) S M 4 rfl (by kernel_rfl) rfl rfl rfl rfl rfl rfl (by first | decide | (simp; done) | (simp; omega)) ?_; clear M; intro w55 M
    simp only [putL, List.set_cons_zero, List.set_cons_succ, Nat.reduceAdd] at M
    refine st_go [1] S rfl (by kernel_rfl) ?_; clear S a; intro a S
    refine nxC ?_
    refine wp_ret ?_
    refine then_ret ?_
    refine end_two S rfl (res_agg (cs := [_, _, _, _, _, _, _, _, _, _, _, _, _, _, _, _, _, _, _, _, _, _, _, _]) (by kernel_rfl) rfl rfl (M.cellsAt (k := 24) 4 rfl rfl)) (res_tmp rfl) ?_
    refine readM_no M (fun m x hm he => ?_)
    have e := rMs_enc hm
    rw [hif hm he, hrM] at e
    subst e
    first
      | (cases h137; done)
      | (simp at h146; done)
      | (simp only at h150; rw [hm] at h150; simp at h150; done)
  clear S; intro h137 S
  refine st_run [1, 1, 2, 1, 1] S M rfl (by kernel_rfl) ?_; clear S a; intro a S
  refine st_y S rfl rfl rfl (y_lenR (E := 5) S rfl (M.own 1 rfl) (by kernel_rfl)) ?_; clear S a; intro a S
  refine st_go [1, 1, 1] S rfl (by kernel_rfl) ?_; clear S a; intro a S
  refine st_split (t := 146) S rfl ?_ ?_
  · clear S; intro h146 S
    refine st_go [0, 0, 0, 1] S rfl (by kernel_rfl) ?_; clear S a; intro a S
    replace S := S.sub [(2, _), (4, _), (6, _), (7, _), (150, _)] rfl
    refine nxC ?_
    refine st_condT S rfl ?_
    refine nxD ?_
    refine st_y S rfl rfl rfl (y_build (ps := []) (pl := [(0, 1), (1, 1), (2, 1), (3, 1), (4, 1), (5, 3), (8, 1), (9, 1), (10, 1), (11, 8), (19, 1), (20, 1), (21, 1), (22, 1), (23, 1)]) (z := [.int .i8 0, .int .i64 0, .int .i64 0, .int .i64 0, .int .i64 0, .int .i64 0, .int .i64 0, .int .i64 0, .int .i64 0, .int .i8 0, .int .i64 0, .int .u8 0, .int .u8 0, .int .u8 0, .int .u8 0, .int .u8 0, .int .u8 0, .int .u8 0, .int .u8 0, .int .i64 0, .bool false, .int .i64 0, .int .i64 0, .slice none 0 0]) (cs := [_, _, _, _, _, _, _, _, _, _, _, _, _, _, _, _, _, _, _, _, _, _, _, _]) S (by kernel_rfl) rfl (rfl)) ?_; clear S a; intro a S
    refine st_store (sz := 24) (us := [_, _, _, _, _, _, _, _, _, _, _, _, _, _, _, _, _, _, _, _, _, _, _, _]) S M 4 rfl (by kernel_rfl) rfl rfl rfl rfl rfl rfl (by first | decide | (simp; done) | (simp; omega)) ?_; clear M; intro w56 M
    simp only [putL, List.set_cons_zero, List.set_cons_succ, Nat.reduceAdd] at M
    refine st_go [1] S rfl (by kernel_rfl) ?_; clear S a; intro a S
    refine nxC ?_
    refine wp_ret ?_
    refine then_ret ?_
    refine end_two S rfl (res_agg (cs := [_, _, _, _, _, _, _, _, _, _, _, _, _, _, _, _, _, _, _, _, _, _, _, _]) (by kernel_rfl) rfl rfl (M.cellsAt (k := 24) 4 rfl rfl)) (res_tmp rfl) ?_
    refine readM_no M (fun m x hm he => ?_)
    have e := rMs_enc hm
    rw [hif hm he, hrM] at e
    subst e
    first
      | (cases h137; done)
      | (simp at h146; done)
      | (simp only at h150; rw [hm] at h150; simp at h150; done)
  clear S; intro h146 S
  refine st_y S rfl rfl rfl (y_loadAgg (cs := [_, _, _, _, _, _, _, _, _, _, _, _, _, _, _, _, _, _, _, _, _, _, _, _]) S (by kernel_rfl) rfl rfl (M.cellsAt (k := 24) 2 rfl rfl)) ?_; clear S a; intro a S
  refine st_call (xs := [(Operand.tmp 147)]) S (enters_of Try.func36 (by decide) rfl) rfl rfl rfl (fMay_any p.1 xa p.2.1.length xc p.2.1 _ (M.readAll 3 rfl (by unfold maxLen; omega))) ?_
  rintro _ w57 ⟨rfl, hK⟩; refine ⟨_, rfl, ?_⟩; clear S a; intro a S; replace M := M.grow hK
  refine st_go [1, 1] S rfl (by kernel_rfl) ?_; clear S a; intro a S
  replace S := S.sub [(2, _), (4, _), (6, _), (7, _), (150, _)] rfl
  refine nxC ?_
  refine st_tils (t := 150) S rfl ?_ ?_
  · clear S; intro h150 S
    refine st_condF S rfl ?_
    refine wp_skip ?_
    refine nxE ?_
    refine st_y S rfl rfl rfl (y_loadAgg (cs := [_, _, _, _, _, _, _, _, _, _, _, _, _, _, _, _, _, _, _, _, _, _, _, _]) S (by kernel_rfl) rfl rfl (M.cellsAt (k := 24) 2 rfl rfl)) ?_; clear S a; intro a S
    refine st_store (sz := 24) (us := [_, _, _, _, _, _, _, _, _, _, _, _, _, _, _, _, _, _, _, _, _, _, _, _]) S M 4 rfl (by kernel_rfl) rfl rfl rfl rfl rfl rfl (by first | decide | (simp; done) | (simp; omega)) ?_; clear M; intro w59 M
    simp only [putL, List.set_cons_zero, List.set_cons_succ, Nat.reduceAdd] at M
    refine st_go [1] S rfl (by kernel_rfl) ?_; clear S a; intro a S
    refine nxC ?_
    refine wp_ret ?_
    refine end_two S rfl (res_agg (cs := [_, _, _, _, _, _, _, _, _, _, _, _, _, _, _, _, _, _, _, _, _, _, _, _]) (by kernel_rfl) rfl rfl (M.cellsAt (k := 24) 4 rfl rfl)) (res_tmp rfl) ?_
    have hbad : p.2.2.bad = false := by (first | exact h137 | simpa using h137)
    have hat : p.2.2.at_ = body.length := by (first | (simp at h146; omega) | omega)
    have hm : p.1.may p.2.1 = true := by simpa using h150
    exact ⟨p.1, p.2.1, _, 0, rfl, M.fresh 3 rfl, by omega, .inl ⟨rfl, hm, by rw [rMs_ok (by rw [htk]; simp only; omega) hrM hbad hat hm, ← hbody]⟩⟩
  clear S; intro h150 S
  refine st_condT S rfl ?_
  refine nxD ?_
  refine st_y S rfl rfl rfl (y_build (ps := []) (pl := [(0, 1), (1, 1), (2, 1), (3, 1), (4, 1), (5, 3), (8, 1), (9, 1), (10, 1), (11, 8), (19, 1), (20, 1), (21, 1), (22, 1), (23, 1)]) (z := [.int .i8 0, .int .i64 0, .int .i64 0, .int .i64 0, .int .i64 0, .int .i64 0, .int .i64 0, .int .i64 0, .int .i64 0, .int .i8 0, .int .i64 0, .int .u8 0, .int .u8 0, .int .u8 0, .int .u8 0, .int .u8 0, .int .u8 0, .int .u8 0, .int .u8 0, .int .i64 0, .bool false, .int .i64 0, .int .i64 0, .slice none 0 0]) (cs := [_, _, _, _, _, _, _, _, _, _, _, _, _, _, _, _, _, _, _, _, _, _, _, _]) S (by kernel_rfl) rfl (rfl)) ?_; clear S a; intro a S
  refine st_store (sz := 24) (us := [_, _, _, _, _, _, _, _, _, _, _, _, _, _, _, _, _, _, _, _, _, _, _, _]) S M 4 rfl (by kernel_rfl) rfl rfl rfl rfl rfl rfl (by first | decide | (simp; done) | (simp; omega)) ?_; clear M; intro w58 M
  simp only [putL, List.set_cons_zero, List.set_cons_succ, Nat.reduceAdd] at M
  refine st_go [1] S rfl (by kernel_rfl) ?_; clear S a; intro a S
  refine nxC ?_
  refine wp_ret ?_
  refine then_ret ?_
  refine end_two S rfl (res_agg (cs := [_, _, _, _, _, _, _, _, _, _, _, _, _, _, _, _, _, _, _, _, _, _, _, _]) (by kernel_rfl) rfl rfl (M.cellsAt (k := 24) 4 rfl rfl)) (res_tmp rfl) ?_
  refine readM_no M (fun m x hm he => ?_)
  have e := rMs_enc hm
  rw [hif hm he, hrM] at e
  subst e
  first
    | (cases h137; done)
    | (simp at h146; done)
    | (simp only at h150; rw [hm] at h150; simp at h150; done)

end Go.Proofs.Ytojgcgaoajfihaa
