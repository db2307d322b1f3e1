/-
  law06.JournalFinds, walked.
-/
import Derived.Test.YtafejnbfgkkjkaaJn
import Derived.Test.YtafejnbfgkkjkaaJm
namespace Go.Proofs.Ytafejnbfgkkjkaa
open Go.RowKit Go.Sort

set_option maxHeartbeats 4000000 in
theorem finds_any (t : Int) (v : Value) (xs : List (List UInt8)) (fl : Int) (pa : Option Addr) (pc : Nat) (plan : List (Int × Int)) (w : World) (hv : BRows w v xs) (hp : Rd 0 w.heap.size w 2 (.slice pa plan.length pc) plan.length (kcells plan)) : Calls Try.prog 5 #[.int .i64 t, v, .int .i64 fl, .slice pa plan.length pc] w fun e w' => e = .returned (.bool true) ∧ Below w.heap.size w w' := by
  have M := Mem.start w
  obtain ⟨vs, hv1, hv2⟩ := hv
  have hvl := hv1.1
  refine calls_enter Try.func5 rfl 171 rfl rfl ?_; intro a S
  refine nxD ?_
  refine st_go [1] S rfl (by kernel_rfl) ?_; clear S a; intro a S
  refine nxC ?_
  refine wp_seq ?_
  refine nxD ?_
  refine st_go [1] S rfl (by kernel_rfl) ?_; clear S a; intro a S
  refine st_y S rfl rfl rfl (y_lenR (E := 32) S rfl (M.arg hv1) (by kernel_rfl)) ?_; clear S a; intro a S
  refine st_go [1, 1] S rfl (by kernel_rfl) ?_; clear S a; intro a S
  refine st_if (t := 22) S rfl ?_ ?_
  · clear S; intro h22 S
    refine st_go [0, 0, 0, 1, 1, 0, 0, 1, 1, 0, 0, 1] S rfl (by kernel_rfl) ?_; clear S a; intro a S
    replace S := S.sub [(0, _), (1, _), (2, _), (3, _), (8, _), (34, _)] rfl
    refine nxC ?_
    refine st_condT S rfl ?_
    refine nxD ?_
    refine st_call (xs := []) S (enters_of Try.func7 (by decide) rfl) rfl rfl rfl (wakes06 _) ?_
    rintro _ w1 ⟨rfl, hK⟩; refine ⟨_, rfl, ?_⟩; clear S a; intro a S; replace M := M.grow hK
    refine st_go [1] S rfl (by kernel_rfl) ?_; clear S a; intro a S
    refine nxC ?_
    refine wp_ret ?_
    refine then_ret ?_
    refine end_one S rfl (res_tmp rfl) ?_
    exact ⟨rfl, M.below⟩
  clear S; intro h22 S
  refine st_go [1] S rfl (by kernel_rfl) ?_; clear S a; intro a S
  refine st_y S rfl rfl rfl (y_lenR (E := 99) S rfl (M.arg hp) (by kernel_rfl)) ?_; clear S a; intro a S
  refine st_go [1, 1, 1] S rfl (by kernel_rfl) ?_; clear S a; intro a S
  refine st_if (t := 27) S rfl ?_ ?_
  · clear S; intro h27 S
    refine st_go [0, 0, 1, 1, 0, 0, 1] S rfl (by kernel_rfl) ?_; clear S a; intro a S
    replace S := S.sub [(0, _), (1, _), (2, _), (3, _), (8, _), (34, _)] rfl
    refine nxC ?_
    refine st_condT S rfl ?_
    refine nxD ?_
    refine st_call (xs := []) S (enters_of Try.func7 (by decide) rfl) rfl rfl rfl (wakes06 _) ?_
    rintro _ w2 ⟨rfl, hK⟩; refine ⟨_, rfl, ?_⟩; clear S a; intro a S; replace M := M.grow hK
    refine st_go [1] S rfl (by kernel_rfl) ?_; clear S a; intro a S
    refine nxC ?_
    refine wp_ret ?_
    refine then_ret ?_
    refine end_one S rfl (res_tmp rfl) ?_
    exact ⟨rfl, M.below⟩
  clear S; intro h27 S
  refine st_go [1, 1, 1, 1] S rfl (by kernel_rfl) ?_; clear S a; intro a S
  refine st_if (t := 31) S rfl ?_ ?_
  · clear S; intro h31 S
    refine st_go [0, 0, 1] S rfl (by kernel_rfl) ?_; clear S a; intro a S
    replace S := S.sub [(0, _), (1, _), (2, _), (3, _), (8, _), (34, _)] rfl
    refine nxC ?_
    refine st_condT S rfl ?_
    refine nxD ?_
    refine st_call (xs := []) S (enters_of Try.func7 (by decide) rfl) rfl rfl rfl (wakes06 _) ?_
    rintro _ w3 ⟨rfl, hK⟩; refine ⟨_, rfl, ?_⟩; clear S a; intro a S; replace M := M.grow hK
    refine st_go [1] S rfl (by kernel_rfl) ?_; clear S a; intro a S
    refine nxC ?_
    refine wp_ret ?_
    refine then_ret ?_
    refine end_one S rfl (res_tmp rfl) ?_
    exact ⟨rfl, M.below⟩
  clear S; intro h31 S
  refine st_go [1, 1, 1] S rfl (by kernel_rfl) ?_; clear S a; intro a S
  replace S := S.sub [(0, _), (1, _), (2, _), (3, _), (8, _), (34, _)] rfl
  refine nxC ?_
  refine st_if (t := 34) S rfl ?_ ?_
  · clear S; intro h34 S
    refine st_condT S rfl ?_
    refine nxD ?_
    refine st_call (xs := []) S (enters_of Try.func7 (by decide) rfl) rfl rfl rfl (wakes06 _) ?_
    rintro _ w4 ⟨rfl, hK⟩; refine ⟨_, rfl, ?_⟩; clear S a; intro a S; replace M := M.grow hK
    refine st_go [1] S rfl (by kernel_rfl) ?_; clear S a; intro a S
    refine nxC ?_
    refine wp_ret ?_
    refine then_ret ?_
    refine end_one S rfl (res_tmp rfl) ?_
    exact ⟨rfl, M.below⟩
  clear S; intro h34 S
  refine st_condF S rfl ?_
  refine wp_skip ?_
  refine then_normal ?_
  refine wp_seq ?_
  have ht : 1 ≤ t ∧ t ≤ 1073741824 := by omega
  have hx20 : xs.length ≤ 20 := by omega
  refine wp_region_lit ?_
  refine st_call (xs := []) S (enters_of Try.func8 (by decide) rfl) rfl rfl rfl (new_any _) ?_
  rintro _ w5 ⟨b, E, rfl, hE, M1⟩; refine ⟨_, rfl, ?_⟩; clear S a; intro a S; replace M := M.join M1; clear M1
  rw [List.append_nil] at M
  refine st_go [1] S rfl (by kernel_rfl) ?_; clear S a; intro a S
  refine nxA ?_
  refine st_go [1, 1] S rfl (by kernel_rfl) ?_; clear S a; intro a S
  refine st_y S rfl rfl rfl (y_build (ps := [(0, (Operand.tmp 37)), (1, (Operand.tmp 38))]) (pl := [(0, 1), (1, 1)]) (z := [.int .i64 0, .int .i64 0]) (cs := [_, _]) S (by kernel_rfl) rfl (rfl)) ?_; clear S a; intro a S
  refine st_alloc S M rfl rfl #[.int .i64 0, .int .i64 0] (by kernel_rfl) ?_; clear S M a; intro a w6 bL S M hB
  refine st_store (sz := 2) (us := [_, _]) S M 0 rfl (by kernel_rfl) rfl rfl rfl rfl rfl rfl (by first | decide | (simp; done) | (simp; omega)) ?_; clear M; intro w7 M
  simp only [putL, List.set_cons_zero, List.set_cons_succ, Nat.reduceAdd] at M
  refine nxA ?_
  refine st_go [1] S rfl (by kernel_rfl) ?_; clear S a; intro a S
  refine st_y S rfl rfl rfl (y_max S rfl rfl) ?_; clear S a; intro a S
  refine st_go [1] S rfl (by kernel_rfl) ?_; clear S a; intro a S
  refine st_y S rfl rfl rfl (y_lenR (E := 32) S rfl (M.arg hv1) (by kernel_rfl)) ?_; clear S a; intro a S
  refine st_y S rfl rfl rfl (y_min S rfl rfl) ?_; clear S a; intro a S
  refine st_go [1] S rfl (by kernel_rfl) ?_; clear S a; intro a S
  refine nxC ?_
  refine wp_seq ?_
  generalize min (max fl 0) (xs.length : Int) = fu at S
  refine wp_region_lit ?_
  refine st_go [1] S rfl (by kernel_rfl) ?_; clear S a; intro a S
  refine nxA ?_
  refine st_go [1] S rfl (by kernel_rfl) ?_; clear S a; intro a S
  refine nxC ?_
  refine wp_seq ?_
  refine nxD ?_
  refine st_go [1] S rfl (by kernel_rfl) ?_; clear S a; intro a S
  refine nxC ?_
  refine wp_block ?_
  refine wp_loop_g (fun m a w' => ∃ (i : Nat) (put : List (List UInt8)) (pvs : List Value) (S0 : DS) (E : List Ent) (c mm : Nat) (qa : Option Addr) (qc lo hi : Nat), i ≤ xs.length ∧ m = xs.length - i ∧ JLog S0 t 3 put c ∧ mm ≤ put.length ∧ c = (framesL 3 t (put.take mm)).length ∧ PutV w pvs put ∧ DkE b S0 E ∧ Sees 171 a [(0, .int .i64 t), (1, v), (2, .int .i64 fu), (3, .slice pa plan.length pc), (9, .pointer (some ⟨b, 0, none⟩)), (10, .pointer (some ⟨bL, 0, none⟩)), (11, .slice qa put.length qc), (12, .int .i64 (mm : Int)), (13, .int .i64 (i : Int))] ∧ Mem w w' (rowE lo hi 32 1 (.slice qa put.length qc) put.length pvs :: .blk bL #[.int .i64 t, .int .i64 (JLog.nx t 3 put)] 27 :: E)) (xs.length) ?_ ?_
  · skip
    refine ⟨0, [], [], DS.new, E, 0, 0, none, 0, w7.heap.size, w7.heap.size, Nat.zero_le _, rfl, JLog.start t 3, Nat.le_refl _, rfl, PutV.nil w, hE, S.sub _ rfl, ?_⟩
    have h0 : JLog.nx t 3 [] = t := by simp [JLog.nx, framesL]
    rw [h0]
    exact M.rowNil 32 1
  clear S M a; intro m a wl
  rintro ⟨i, put, pvs, S0, E, c, mm, qa, qc, lo, hi, hi', rfl, J, hmm, hc, hPv, hE, S, M⟩
  have hpl24 := J.puts
  refine wp_seq ?_
  refine nxD ?_
  refine st_go [1, 1] S rfl (by kernel_rfl) ?_; clear S a; intro a S
  refine st_y S rfl rfl rfl (y_lenR (E := 32) S rfl (M.arg hv1) (by kernel_rfl)) ?_; clear S a; intro a S
  refine st_go [1] S rfl (by kernel_rfl) ?_; clear S a; intro a S
  refine nxC ?_
  refine st_fi (t := 48) S rfl ?_ ?_
  · clear S; intro h48 S
    refine st_condF S rfl ?_
    refine wp_exit ?_
    refine then_exit ?_
    refine then_exit ?_
    refine block_hit ?_
    refine then_normal ?_
    refine wp_cut (fun a w' => ∃ (S0 : DS) (E : List Ent) (c mm : Nat), JLog S0 t 3 put c ∧ mm ≤ put.length ∧ c = (framesL 3 t (put.take mm)).length ∧ DkE b S0 E ∧ Sees 171 a [(0, .int .i64 t), (3, .slice pa plan.length pc), (9, .pointer (some ⟨b, 0, none⟩)), (10, .pointer (some ⟨bL, 0, none⟩)), (11, .slice qa put.length qc), (12, .int .i64 (mm : Int))] ∧ Mem w w' (rowE lo hi 32 1 (.slice qa put.length qc) put.length pvs :: .blk bL #[.int .i64 t, .int .i64 (JLog.nx t 3 put)] 27 :: E)) ?_ ?_
    · skip
      refine nxD ?_
      refine st_go [1, 1] S rfl (by kernel_rfl) ?_; clear S a; intro a S
      refine st_y S rfl rfl rfl (y_lenR (E := 32) S rfl (M.arg hv1) (by kernel_rfl)) ?_; clear S a; intro a S
      refine st_go [1] S rfl (by kernel_rfl) ?_; clear S a; intro a S
      refine nxC ?_
      refine st_fi (t := 106) S rfl ?_ ?_
      · clear S; intro h106 S
        refine st_condF S rfl ?_
        refine wp_skip ?_
        refine then_normal ?_
        first
          | exact ⟨_, _, _, put.length, J.flush, Nat.le_refl _, by rw [List.take_length], hE1, S.sub _ rfl, M⟩
          | exact ⟨_, _, _, _, J, hmm, hc, hE, S.sub _ rfl, M⟩
      clear S; intro h106 S
      refine st_condT S rfl ?_
      refine wp_seq ?_
      refine nxD ?_
      refine st_go [1] S rfl (by kernel_rfl) ?_; clear S a; intro a S
      refine st_call (xs := [(Operand.tmp 107)]) S (enters_of Try.func14 (by decide) rfl) rfl rfl rfl (jflush_any (A := [_, _]) hE M J.up (fun k => by have := J.cache k; omega)) ?_
      rintro _ w24 ⟨rfl, E1, hE1, M1⟩; refine ⟨_, rfl, ?_⟩; clear S M a; intro a S; have M := M1; clear M1
      simp only [List.cons_append, List.nil_append] at M
      refine st_go [1] S rfl (by kernel_rfl) ?_; clear S a; intro a S
      refine nxC ?_
      refine st_if (t := 109) S rfl ?_ ?_
      · clear S; intro h109 S
        exact absurd rfl h109
      clear S; intro h109 S
      refine st_condF S rfl ?_
      refine wp_skip ?_
      refine nxF ?_
      refine st_go [1] S rfl (by kernel_rfl) ?_; clear S a; intro a S
      refine st_y S rfl rfl rfl (y_lenR (E := 32) S rfl (M.readAll 0 rfl (by unfold maxLen; omega)) (by kernel_rfl)) ?_; clear S a; intro a S
      refine st_go [1] S rfl (by kernel_rfl) ?_; clear S a; intro a S
      refine nxC ?_
      first
        | exact ⟨_, _, _, put.length, J.flush, Nat.le_refl _, by rw [List.take_length], hE1, S.sub _ rfl, M⟩
        | exact ⟨_, _, _, _, J, hmm, hc, hE, S.sub _ rfl, M⟩
    clear S a M; intro a wc
    clear J hmm hc hE mm c
    rintro ⟨S0, E, c, mm, J, hmm, hc, hE, S, M⟩
    refine wp_seq ?_
    refine nxD ?_
    refine st_go [1, 1] S rfl (by kernel_rfl) ?_; clear S a; intro a S
    refine st_call (xs := [(Operand.tmp 112), (Operand.tmp 113)]) S (enters_of Try.func12 (by decide) rfl) rfl rfl rfl (crash_any (A := [_, _]) pa pc plan hE M (fun W M => M.argW hp) J.up (fun k => by have := J.cache k; omega)) ?_
    rintro _ w25 ⟨rfl, E1, hE1, M1⟩; refine ⟨_, rfl, ?_⟩; clear S M a; intro a S; have M := M1; clear M1
    simp only [List.cons_append, List.nil_append] at M
    refine st_go [1, 1] S rfl (by kernel_rfl) ?_; clear S a; intro a S
    refine st_if (t := 116) S rfl ?_ ?_
    · clear S; intro h116 S
      exfalso; simp at h116
    clear S; intro h116 S
    refine st_go [1] S rfl (by kernel_rfl) ?_; clear S a; intro a S
    refine st_call (xs := [(Operand.tmp 117)]) S (enters_of Try.func13 (by decide) rfl) rfl rfl rfl (up_any (A := [_, _]) hE1 M rfl) ?_
    rintro _ w26 ⟨rfl, E2, hE2, M1⟩; refine ⟨_, rfl, ?_⟩; clear S M a; intro a S; have M := M1; clear M1
    simp only [List.cons_append, List.nil_append] at M
    refine st_go [1, 1] S rfl (by kernel_rfl) ?_; clear S a; intro a S
    refine nxC ?_
    refine st_if (t := 120) S rfl ?_ ?_
    · clear S; intro h120 S
      exfalso; simp at h120
    clear S; intro h120 S
    refine st_condF S rfl ?_
    refine wp_skip ?_
    refine nxE ?_
    refine st_go [1, 1] S rfl (by kernel_rfl) ?_; clear S a; intro a S
    refine st_call (xs := [(Operand.tmp 122), (Operand.tmp 123)]) S (enters_of Try.func10 (by decide) rfl) rfl rfl rfl (Scan_any (A := [_, _]) (S0 := S0.again plan) t hE2 M rfl (fun k => Nat.zero_le _) (by omega)) ?_
    rintro _ w27 ⟨rs, ra, rc, lo3, hi3, rfl, hrs, hr90, hr24, M1⟩; refine ⟨_, rfl, ?_⟩; clear S M a; intro a S
    have M := M1.perm (List.Perm.cons _ (perm_shift (rs.map RB.ent) [_, _] E2)); clear M1
    simp only [List.cons_append, List.nil_append] at M
    obtain ⟨k, hk1, hk2, hsl, hsn, -⟩ := found_at J (by omega) hmm hc plan
    rw [hsl, beginsL_snd] at hrs
    have hrk : rs.length = k := by
      have := congrArg List.length hrs
      rw [List.length_map, List.length_take] at this; omega
    have hnk := framesL_take_le 3 t put k
    have hnx : JLog.nx t 3 put = t + ((framesL 3 t put).length : Int) := rfl
    have hnx2 : JLog.nx t 3 (put.take k) = t + ((framesL 3 t (put.take k)).length : Int) := rfl
    have hpl24 := J.puts
    rw [hsn] at S
    refine st_go [1, 1, 1, 1] S rfl (by kernel_rfl) ?_; clear S a; intro a S
    refine st_alloc S M rfl rfl #[.int .i64 0, .int .i64 0] (by kernel_rfl) ?_; clear S M a; intro a w28 bG S M hB
    refine st_go [1] S rfl (by kernel_rfl) ?_; clear S a; intro a S
    refine st_store (sz := 2) (us := [_, _]) S M 0 rfl (by kernel_rfl) rfl rfl rfl rfl rfl rfl (by first | decide | (simp; done) | (simp; omega)) ?_; clear M; intro w29 M
    simp only [putL, List.set_cons_zero, List.set_cons_succ, Nat.reduceAdd] at M
    refine st_go [1] S rfl (by kernel_rfl) ?_; clear S a; intro a S
    replace S := S.sub [(0, _), (3, _), (9, _), (10, _), (11, _), (12, _), (120, _), (17, _), (16, _), (18, _)] rfl
    refine nxC ?_
    refine wp_seq ?_
    refine nxD ?_
    refine st_go [1, 1, 1] S rfl (by kernel_rfl) ?_; clear S a; intro a S
    refine st_if (t := 130) S rfl ?_ ?_
    · clear S; intro h130 S
      exfalso; simp at h130
    clear S; intro h130 S
    refine st_go [1] S rfl (by kernel_rfl) ?_; clear S a; intro a S
    refine st_y S rfl rfl rfl (y_lenR (E := 32) S rfl (M.readAll 1 rfl (by unfold maxLen; omega)) (by kernel_rfl)) ?_; clear S a; intro a S
    refine st_go [1, 1, 1, 1] S rfl (by kernel_rfl) ?_; clear S a; intro a S
    refine st_if (t := 136) S rfl ?_ ?_
    · clear S; intro h136 S
      exfalso; omega
    clear S; intro h136 S
    refine st_go [1] S rfl (by kernel_rfl) ?_; clear S a; intro a S
    refine st_y S rfl rfl rfl (y_lenR (E := 32) S rfl (M.readAll 1 rfl (by unfold maxLen; omega)) (by kernel_rfl)) ?_; clear S a; intro a S
    refine st_go [1] S rfl (by kernel_rfl) ?_; clear S a; intro a S
    refine st_y S rfl rfl rfl (y_lenR (E := 32) S rfl (M.readAll 2 rfl (by unfold maxLen; omega)) (by kernel_rfl)) ?_; clear S a; intro a S
    refine st_go [1, 1, 1] S rfl (by kernel_rfl) ?_; clear S a; intro a S
    refine st_if (t := 143) S rfl ?_ ?_
    · clear S; intro h143 S
      exfalso; omega
    clear S; intro h143 S
    refine st_run [1, 1, 1, 1, 1, 1] S M rfl (by kernel_rfl) ?_; clear S a; intro a S
    refine st_if (t := 149) S rfl ?_ ?_
    · clear S; intro h149 S
      exfalso; omega
    clear S; intro h149 S
    refine st_run [2, 1, 1, 1, 1, 1] S M rfl (by kernel_rfl) ?_; clear S a; intro a S
    refine st_if (t := 155) S rfl ?_ ?_
    · clear S; intro h155 S
      exfalso; omega
    clear S; intro h155 S
    refine st_run [2, 1, 2, 4, 1, 1] S M rfl (by kernel_rfl) ?_; clear S a; intro a S
    replace S := S.sub [(0, _), (3, _), (9, _), (10, _), (11, _), (12, _), (120, _), (17, _), (16, _), (18, _), (161, _)] rfl
    refine nxC ?_
    refine st_if (t := 161) S rfl ?_ ?_
    · clear S; intro h161 S
      exfalso; omega
    clear S; intro h161 S
    refine st_condF S rfl ?_
    refine wp_skip ?_
    refine nxE ?_
    refine st_go [1, 1, 1] S rfl (by kernel_rfl) ?_; clear S a; intro a S
    refine st_y S rfl rfl rfl (y_lenR (E := 32) S rfl (M.readAll 1 rfl (by unfold maxLen; omega)) (by kernel_rfl)) ?_; clear S a; intro a S
    refine st_y S rfl rfl rfl (y_slice02R (e := 32) (sz := 1) S (by kernel_rfl) rfl (M.readAll 2 rfl (by unfold maxLen; omega)) rfl (by first | omega | (simp; done) | (simp; omega))) ?_; clear S a; intro a S
    refine st_call (xs := [(Operand.tmp 162), (Operand.tmp 166)]) S (enters_of Try.func11 (by decide) rfl) rfl rfl rfl (rows_any _ _ (rs.map RB.bs) (put.take rs.length) _ (brows_of (lo := lo3) (hi := hi3) M (.tail _ (.head _)) (fun r hr => .tail _ (.tail _ (.tail _ (.tail _ (List.mem_append_left _ (List.mem_map_of_mem hr)))))) hr90 (by omega)) (BRows.cutTo (brows_put (lo := lo) (hi := hi) M (.tail _ (.tail _ (.head _))) hPv (by omega)) (by omega))) ?_
    rintro _ w30 ⟨rfl, hK⟩; refine ⟨_, rfl, ?_⟩; clear S a; intro a S; replace M := M.grow hK
    refine st_go [1] S rfl (by kernel_rfl) ?_; clear S a; intro a S
    refine st_fi (t := 168) S rfl ?_ ?_
    · clear S; intro h168 S
      exfalso; rw [hrk, hrs] at h168; simp at h168
    clear S; intro h168 S
    refine st_call (xs := []) S (enters_of Try.func7 (by decide) rfl) rfl rfl rfl (wakes06 _) ?_
    rintro _ w31 ⟨rfl, hK⟩; refine ⟨_, rfl, ?_⟩; clear S a; intro a S; replace M := M.grow hK
    refine st_go [1, 1] S rfl (by kernel_rfl) ?_; clear S a; intro a S
    refine nxC ?_
    refine wp_ret ?_
    refine end_one S rfl (res_tmp rfl) ?_
    exact ⟨rfl, M.below⟩
  clear S; intro h48 S
  refine st_condT S rfl ?_
  refine wp_skip ?_
  refine then_normal ?_
  refine wp_seq ?_
  refine wp_block ?_
  obtain ⟨x, hx⟩ : ∃ x, vs[i]? = some x := ⟨_, List.getElem?_eq_getElem (by omega)⟩
  obtain ⟨bs, hbs⟩ : ∃ bs, xs[i]? = some bs := ⟨_, List.getElem?_eq_getElem (by omega)⟩
  have hxb := hv2 i x bs hx hbs
  refine wp_cut (fun a w' => ∃ (S0 : DS) (E : List Ent) (c mm : Nat), JLog S0 t 3 put c ∧ mm ≤ put.length ∧ c = (framesL 3 t (put.take mm)).length ∧ DkE b S0 E ∧ Sees 171 a [(0, .int .i64 t), (1, v), (2, .int .i64 fu), (3, .slice pa plan.length pc), (9, .pointer (some ⟨b, 0, none⟩)), (10, .pointer (some ⟨bL, 0, none⟩)), (11, .slice qa put.length qc), (12, .int .i64 (mm : Int)), (13, .int .i64 (i : Int))] ∧ Mem w w' (rowE lo hi 32 1 (.slice qa put.length qc) put.length pvs :: .blk bL #[.int .i64 t, .int .i64 (JLog.nx t 3 put)] 27 :: E)) ?_ ?_
  · skip
    refine nxD ?_
    refine st_go [1, 1, 1] S rfl (by kernel_rfl) ?_; clear S a; intro a S
    refine nxC ?_
    refine st_fi (t := 53) S rfl ?_ ?_
    · clear S; intro h53 S
      refine st_condF S rfl ?_
      refine wp_skip ?_
      refine then_normal ?_
      first
        | exact ⟨_, _, _, put.length, J.flush, Nat.le_refl _, by rw [List.take_length], hE1, S.sub _ rfl, M⟩
        | exact ⟨_, _, _, _, J, hmm, hc, hE, S.sub _ rfl, M⟩
    clear S; intro h53 S
    refine st_condT S rfl ?_
    refine wp_seq ?_
    refine nxD ?_
    refine st_go [1] S rfl (by kernel_rfl) ?_; clear S a; intro a S
    refine st_call (xs := [(Operand.tmp 54)]) S (enters_of Try.func14 (by decide) rfl) rfl rfl rfl (jflush_any (A := [_, _]) hE M J.up (fun k => by have := J.cache k; omega)) ?_
    rintro _ w8 ⟨rfl, E1, hE1, M1⟩; refine ⟨_, rfl, ?_⟩; clear S M a; intro a S; have M := M1; clear M1
    simp only [List.cons_append, List.nil_append] at M
    refine st_go [1] S rfl (by kernel_rfl) ?_; clear S a; intro a S
    refine nxC ?_
    refine st_if (t := 56) S rfl ?_ ?_
    · clear S; intro h56 S
      exact absurd rfl h56
    clear S; intro h56 S
    refine st_condF S rfl ?_
    refine wp_skip ?_
    refine nxF ?_
    refine st_go [1] S rfl (by kernel_rfl) ?_; clear S a; intro a S
    refine st_y S rfl rfl rfl (y_lenR (E := 32) S rfl (M.readAll 0 rfl (by unfold maxLen; omega)) (by kernel_rfl)) ?_; clear S a; intro a S
    refine st_go [1] S rfl (by kernel_rfl) ?_; clear S a; intro a S
    refine nxC ?_
    first
      | exact ⟨_, _, _, put.length, J.flush, Nat.le_refl _, by rw [List.take_length], hE1, S.sub _ rfl, M⟩
      | exact ⟨_, _, _, _, J, hmm, hc, hE, S.sub _ rfl, M⟩
  clear S a M; intro a wc
  clear J hmm hc hE mm c
  rintro ⟨S0, E, c, mm, J, hmm, hc, hE, S, M⟩
  refine wp_cut (fun a w' => ∃ (n' er : Int) (S1 : DS) (E1 : List Ent) (bT : Nat), AppP t (JLog.nx t 3 put) 3 bs S0 n' er S1 ∧ DkE b S1 E1 ∧ Sees 171 a [(0, .int .i64 t), (1, v), (2, .int .i64 fu), (3, .slice pa plan.length pc), (9, .pointer (some ⟨b, 0, none⟩)), (10, .pointer (some ⟨bL, 0, none⟩)), (11, .slice qa put.length qc), (12, .int .i64 (mm : Int)), (13, .int .i64 (i : Int)), (14, .pointer (some ⟨bT, 0, none⟩)), (15, .int .i64 er)] ∧ Mem w w' (.blk bT #[.int .i64 t, .int .i64 n'] 27 :: rowE lo hi 32 1 (.slice qa put.length qc) put.length pvs :: .blk bL #[.int .i64 t, .int .i64 (JLog.nx t 3 put)] 27 :: E1)) ?_ ?_
  · skip
    refine wp_regionK [6, 11] #[false, false, false, false, false, false, false, false, false, false, false, false, false] rfl M (by kernel_rfl) ?_; clear M; intro w9 M
    refine k_pure (listed' := #[true, false, false, false, false, false, false, false, false, false, false, false, false]) 0 S rfl rfl rfl rfl (by kernel_rfl) rfl (fun _ d _ _ _ h => by cases d <;> exact h) (fun w => y_move S rfl) ?_; clear S a; intro a S
    refine k_read (listed' := #[true, true, false, false, false, false, false, false, false, false, false, false, false]) 1 S rfl rfl rfl rfl (by kernel_rfl) rfl (fun _ d _ _ _ h => by cases d <;> exact h) (fun w hW => have M := M.grow hW; y_loadAgg (cs := [_, _]) S (by kernel_rfl) rfl rfl (M.cellsAt (k := 2) 1 rfl rfl)) ?_; clear S a; intro a S
    refine k_pure (listed' := #[true, true, true, false, false, false, false, false, false, false, false, false, false]) 2 S rfl rfl rfl rfl (by kernel_rfl) rfl (fun _ d _ _ _ h => by cases d <;> exact h) (fun w => y_move S rfl) ?_; clear S a; intro a S
    refine k_pure (listed' := #[true, true, true, true, false, false, false, false, false, false, false, false, false]) 3 S rfl rfl rfl rfl (by kernel_rfl) rfl (fun _ d _ _ _ h => by cases d <;> exact h) (fun w => y_move S rfl) ?_; clear S a; intro a S
    refine k_read (listed' := #[true, true, true, true, true, false, false, false, false, false, false, false, false]) 4 S rfl rfl rfl rfl (by kernel_rfl) rfl (fun _ d _ _ _ h => by cases d <;> exact h) (fun w hW => have M := M.grow hW; y_indexR (e := 32) (sz := 1) S (by kernel_rfl) rfl (M.arg hv1) rfl (by first | omega | (simp; done) | (simp; omega))) ?_; clear S a; intro a S
    try simp only [Int.toNat_natCast, Nat.mul_one, Nat.zero_add] at S
    refine k_read (listed' := #[true, true, true, true, true, true, false, false, false, false, false, false, false]) 5 S rfl rfl rfl rfl (by kernel_rfl) rfl (fun _ d _ _ _ h => by cases d <;> exact h) (fun w hW => have M := M.grow hW; y_load S (by kernel_rfl) rfl ((M.arg hv1).at_.one i hx)) ?_; clear S a; intro a S
    refine k_two (l1 := #[true, true, true, true, true, true, true, false, false, false, false, false, false]) (l2 := #[true, true, true, true, true, true, false, false, false, false, true, false, false]) 6 10 rfl rfl (by kernel_rfl) rfl rfl ?_ ?_
    · skip
      refine st_call (xs := [(Operand.tmp 60), (Operand.tmp 61), (Operand.const (Value.int IntKind.i64 3)), (Operand.tmp 65)]) S (enters_of Try.func9 (by decide) rfl) rfl rfl rfl ((by first | exact append_any (A := [_, _]) t (JLog.nx t 3 put) 3 x bs hE M (RdH.arg hxb) J.up (J.may ht) (by have := J.inv.len; unfold JLog.nx; omega) (by omega) (fun k => by have := J.cache k; omega) | exact append_any (A := [_, _, _]) t (JLog.nx t 3 put) 3 x bs hE M (RdH.arg hxb) J.up (J.may ht) (by have := J.inv.len; unfold JLog.nx; omega) (by omega) (fun k => by have := J.cache k; omega))) ?_
      rintro _ w10 ⟨n', er, S1, rfl, hP, E1, hE1, M1⟩; refine ⟨_, rfl, ?_⟩; clear S M a; intro a S; have M := M1; clear M1
      simp only [List.cons_append, List.nil_append] at M
      refine wpList_nil ?_; refine then_normal ?_; refine ⟨fun h => absurd h (by decide), ?_⟩
      refine k_pure (listed' := #[true, true, true, true, true, true, true, true, false, false, false, false, false]) 7 S rfl rfl rfl rfl (by kernel_rfl) rfl (fun _ d _ _ _ h => by cases d <;> exact h) (fun w => y_move S rfl) ?_; clear S a; intro a S
      refine k_pure (listed' := #[true, true, true, true, true, true, true, true, true, false, false, false, false]) 8 S rfl rfl rfl rfl (by kernel_rfl) rfl (fun _ d _ _ _ h => by cases d <;> exact h) (fun w => y_extract S rfl rfl) ?_; clear S a; intro a S
      refine k_pure (listed' := #[true, true, true, true, true, true, true, true, true, true, false, false, false]) 9 S rfl rfl rfl rfl (by kernel_rfl) rfl (fun _ d _ _ _ h => by cases d <;> exact h) (fun w => y_extract S rfl rfl) ?_; clear S a; intro a S
      refine k_one (listed' := #[true, true, true, true, true, true, true, true, true, true, true, false, false]) 10 rfl (by kernel_rfl) rfl ?_
      refine st_alloc S M rfl rfl #[.int .i64 0, .int .i64 0] (by kernel_rfl) ?_; clear S M a; intro a w11 bT S M hB
      refine wpList_nil ?_; refine then_normal ?_; refine ⟨fun _ => hB, ?_⟩
      refine k_one (listed' := #[true, true, true, true, true, true, true, true, true, true, true, true, false]) 11 rfl (by kernel_rfl) rfl ?_
      refine st_store (sz := 2) (us := [_, _]) S M 0 rfl (by kernel_rfl) rfl rfl rfl rfl rfl rfl (by first | decide | (simp; done) | (simp; omega)) ?_; clear M; intro w12 M
      simp only [putL, List.set_cons_zero, List.set_cons_succ, Nat.reduceAdd] at M
      refine wpList_nil ?_; refine then_normal ?_; refine ⟨fun h => absurd h (by decide), ?_⟩
      refine k_pure (listed' := #[true, true, true, true, true, true, true, true, true, true, true, true, true]) 12 S rfl rfl rfl rfl (by kernel_rfl) rfl (fun _ d _ _ _ h => by cases d <;> exact h) (fun w => y_assign S rfl) ?_; clear S a; intro a S
      refine k_end (by kernel_rfl) ?_
      refine then_normal ?_
      exact ⟨_, _, _, _, _, hP, hE1, S.sub _ rfl, M⟩
    · skip
      refine st_alloc S M rfl rfl #[.int .i64 0, .int .i64 0] (by kernel_rfl) ?_; clear S M a; intro a w13 bT S M hB
      refine wpList_nil ?_; refine then_normal ?_; refine ⟨fun _ => hB, ?_⟩
      refine k_one (listed' := #[true, true, true, true, true, true, true, false, false, false, true, false, false]) 6 rfl (by kernel_rfl) rfl ?_
      refine st_call (xs := [(Operand.tmp 60), (Operand.tmp 61), (Operand.const (Value.int IntKind.i64 3)), (Operand.tmp 65)]) S (enters_of Try.func9 (by decide) rfl) rfl rfl rfl ((by first | exact append_any (A := [_, _]) t (JLog.nx t 3 put) 3 x bs hE M (RdH.arg hxb) J.up (J.may ht) (by have := J.inv.len; unfold JLog.nx; omega) (by omega) (fun k => by have := J.cache k; omega) | exact append_any (A := [_, _, _]) t (JLog.nx t 3 put) 3 x bs hE M (RdH.arg hxb) J.up (J.may ht) (by have := J.inv.len; unfold JLog.nx; omega) (by omega) (fun k => by have := J.cache k; omega))) ?_
      rintro _ w14 ⟨n', er, S1, rfl, hP, E1, hE1, M1⟩; refine ⟨_, rfl, ?_⟩; clear S M a; intro a S; have M := M1; clear M1
      simp only [List.cons_append, List.nil_append] at M
      refine wpList_nil ?_; refine then_normal ?_; refine ⟨fun h => absurd h (by decide), ?_⟩
      refine k_pure (listed' := #[true, true, true, true, true, true, true, true, false, false, true, false, false]) 7 S rfl rfl rfl rfl (by kernel_rfl) rfl (fun _ d _ _ _ h => by cases d <;> exact h) (fun w => y_move S rfl) ?_; clear S a; intro a S
      refine k_pure (listed' := #[true, true, true, true, true, true, true, true, true, false, true, false, false]) 8 S rfl rfl rfl rfl (by kernel_rfl) rfl (fun _ d _ _ _ h => by cases d <;> exact h) (fun w => y_extract S rfl rfl) ?_; clear S a; intro a S
      refine k_pure (listed' := #[true, true, true, true, true, true, true, true, true, true, true, false, false]) 9 S rfl rfl rfl rfl (by kernel_rfl) rfl (fun _ d _ _ _ h => by cases d <;> exact h) (fun w => y_extract S rfl rfl) ?_; clear S a; intro a S
      refine k_one (listed' := #[true, true, true, true, true, true, true, true, true, true, true, true, false]) 11 rfl (by kernel_rfl) rfl ?_
      refine st_store (sz := 2) (us := [_, _]) S M 0 rfl (by kernel_rfl) rfl rfl rfl rfl rfl rfl (by first | decide | (simp; done) | (simp; omega)) ?_; clear M; intro w15 M
      simp only [putL, List.set_cons_zero, List.set_cons_succ, Nat.reduceAdd] at M
      refine wpList_nil ?_; refine then_normal ?_; refine ⟨fun h => absurd h (by decide), ?_⟩
      refine k_pure (listed' := #[true, true, true, true, true, true, true, true, true, true, true, true, true]) 12 S rfl rfl rfl rfl (by kernel_rfl) rfl (fun _ d _ _ _ h => by cases d <;> exact h) (fun w => y_assign S rfl) ?_; clear S a; intro a S
      refine k_end (by kernel_rfl) ?_
      refine then_normal ?_
      exact ⟨_, _, _, _, _, hP, hE1, S.sub _ rfl, M⟩
  clear S a M; intro a wc
  rintro ⟨n', er, S1, E1, bT, hP, hE1, S, M⟩
  have hJ := J.app ht (by omega) hP
  have hG := J.inv.len
  have hnx : JLog.nx t 3 put = t + ((framesL 3 t put).length : Int) := rfl
  have hwa := wants_appOk (t := t) (nx := JLog.nx t 3 put) (bs := bs)
  refine wp_cut (fun a w' => Sees 171 a [(0, .int .i64 t), (1, v), (2, .int .i64 fu), (3, .slice pa plan.length pc), (9, .pointer (some ⟨b, 0, none⟩)), (10, .pointer (some ⟨bL, 0, none⟩)), (11, .slice qa put.length qc), (12, .int .i64 (mm : Int)), (13, .int .i64 (i : Int)), (14, .pointer (some ⟨bT, 0, none⟩)), (15, .int .i64 er)] ∧ Mem w w' (.blk bT #[.int .i64 t, .int .i64 n'] 27 :: rowE lo hi 32 1 (.slice qa put.length qc) put.length pvs :: .blk bL #[.int .i64 t, .int .i64 (JLog.nx t 3 put)] 27 :: E1)) ?_ ?_
  · skip
    refine wp_seq ?_
    refine wp_quiet M (by kernel_rfl) (by kernel_rfl) ?_
    refine qt_y S rfl rfl rfl (fun w M => y_move S rfl) ?_; clear S a; intro a S
    refine qt_y S rfl rfl rfl (fun w M => y_int S rfl rfl rfl) ?_; clear S a; intro a S
    refine qt_y S rfl rfl rfl (fun w M => y_move S rfl) ?_; clear S a; intro a S
    refine qt_y S rfl rfl rfl (fun w M => y_move S rfl) ?_; clear S a; intro a S
    refine qt_y S rfl rfl rfl (fun w M => y_indexR (e := 32) (sz := 1) S (by kernel_rfl) rfl (M.arg hv1) rfl (by first | omega | (simp; done) | (simp; omega))) ?_; clear S a; intro a S
    try simp only [Int.toNat_natCast, Nat.mul_one, Nat.zero_add] at S
    refine qt_y S rfl rfl rfl (fun w M => y_load S (by kernel_rfl) rfl ((M.arg hv1).at_.one i hx)) ?_; clear S a; intro a S
    refine qt_y S rfl rfl rfl (fun w M => y_lenR (E := 5) S rfl (M.arg hxb) (by kernel_rfl)) ?_; clear S a; intro a S
    refine qt_call (xs := [(Operand.tmp 75)]) S (enters_of Try.func15 (by decide) rfl) rfl rfl rfl (quiet_of fun w M => wants_any _ w) ?_; clear S a; intro a S
    refine qt_y S rfl rfl rfl (fun w M => y_int S rfl rfl rfl) ?_; clear S a; intro a S
    refine qt_y S rfl rfl rfl (fun w M => y_move S rfl) ?_; clear S a; intro a S
    refine st_fi (t := 78) S rfl ?_ ?_
    · clear S; intro h78 S
      refine qt_skip 12 S rfl ?_; clear S a; intro a S
      refine qt_y S rfl rfl rfl (fun w M => y_pickF S rfl rfl) ?_; clear S a; intro a S
      refine qt_y S rfl rfl rfl (fun w M => y_neqBool (by kernel_rfl) S rfl rfl) ?_; clear S a; intro a S
      refine wpQuiet_nil ?_; clear M; intro w19 M
      refine then_normal ?_
      refine st_tils (t := 92) S rfl ?_ ?_
      · clear S; intro h92 S
        refine st_condF S rfl ?_
        refine wp_skip ?_
        refine then_normal ?_
        exact ⟨S.sub _ rfl, M⟩
      clear S; intro h92 S
      exfalso
      rcases hJ with ⟨h1, h2, -⟩ | ⟨h1, h2, -⟩
      · have h3 := hwa.2 h2
        simp [h1, h3] at h92
        try omega
      · have h3 := fun z => h2 (hwa.1 z)
        have e1 : (er == 0) = false := by simpa using h1
        by_cases z : wantsP (bs.length : Int) ≤ t + 24 - JLog.nx t 3 put
        · first | (refine h3 ⟨?_, z⟩; omega) | (simp [e1] at h92)
        · simp [e1, z] at h92
    clear S; intro h78 S
    refine qt_y S rfl rfl rfl (fun w M => y_move S rfl) ?_; clear S a; intro a S
    refine qt_y S rfl rfl rfl (fun w M => y_move S rfl) ?_; clear S a; intro a S
    refine qt_y S rfl rfl rfl (fun w M => y_indexR (e := 32) (sz := 1) S (by kernel_rfl) rfl (M.arg hv1) rfl (by first | omega | (simp; done) | (simp; omega))) ?_; clear S a; intro a S
    try simp only [Int.toNat_natCast, Nat.mul_one, Nat.zero_add] at S
    refine qt_y S rfl rfl rfl (fun w M => y_load S (by kernel_rfl) rfl ((M.arg hv1).at_.one i hx)) ?_; clear S a; intro a S
    refine qt_y S rfl rfl rfl (fun w M => y_lenR (E := 5) S rfl (M.arg hxb) (by kernel_rfl)) ?_; clear S a; intro a S
    refine qt_call (xs := [(Operand.tmp 83)]) S (enters_of Try.func15 (by decide) rfl) rfl rfl rfl (quiet_of fun w M => wants_any _ w) ?_; clear S a; intro a S
    refine qt_y S rfl rfl rfl (fun w M => y_move S rfl) ?_; clear S a; intro a S
    (first | refine qt_y S rfl rfl rfl (fun w M => y_addN S rfl rfl (by omega)) ?_ | refine qt_y S rfl rfl rfl (fun w M => y_int S rfl rfl rfl) ?_); clear S a; intro a S
    refine qt_y S rfl rfl rfl (fun w M => y_fieldAddr (k := 1) S (by kernel_rfl) rfl) ?_; clear S a; intro a S
    refine qt_y S rfl rfl rfl (fun w M => y_load S (by kernel_rfl) rfl (M.cell 2 rfl rfl)) ?_; clear S a; intro a S
    (first | refine qt_y S rfl rfl rfl (fun w M => y_subN S rfl rfl (by omega)) ?_ | refine qt_y S rfl rfl rfl (fun w M => y_int S rfl rfl rfl) ?_); clear S a; intro a S
    refine qt_y S rfl rfl rfl (fun w M => y_int S rfl rfl rfl) ?_; clear S a; intro a S
    refine qt_y S rfl rfl rfl (fun w M => y_pickT S rfl rfl) ?_; clear S a; intro a S
    refine qt_y S rfl rfl rfl (fun w M => y_neqBool (by kernel_rfl) S rfl rfl) ?_; clear S a; intro a S
    refine wpQuiet_nil ?_; clear M; intro w18 M
    replace S := S.sub [(0, _), (1, _), (2, _), (3, _), (9, _), (10, _), (11, _), (12, _), (13, _), (14, _), (15, _), (92, _)] rfl
    refine then_normal ?_
    refine st_tils (t := 92) S rfl ?_ ?_
    · clear S; intro h92 S
      refine st_condF S rfl ?_
      refine wp_skip ?_
      refine then_normal ?_
      exact ⟨S.sub _ rfl, M⟩
    clear S; intro h92 S
    exfalso
    rcases hJ with ⟨h1, h2, -⟩ | ⟨h1, h2, -⟩
    · have h3 := hwa.2 h2
      simp [h1, h3] at h92
      try omega
    · have h3 := fun z => h2 (hwa.1 z)
      have e1 : (er == 0) = false := by simpa using h1
      by_cases z : wantsP (bs.length : Int) ≤ t + 24 - JLog.nx t 3 put
      · first | (refine h3 ⟨?_, z⟩; omega) | (simp [e1] at h92)
      · simp [e1, z] at h92
  clear S a M; intro a wc
  rintro ⟨S, M⟩
  refine wp_seq ?_
  refine nxD ?_
  refine st_go [1, 1] S rfl (by kernel_rfl) ?_; clear S a; intro a S
  refine nxC ?_
  refine st_fi (t := 94) S rfl ?_ ?_
  · clear S; intro h94 S
    refine st_condF S rfl ?_
    refine wp_skip ?_
    refine nxF ?_
    refine st_y S rfl rfl rfl (y_loadAgg (cs := [_, _]) S (by kernel_rfl) rfl rfl (M.cellsAt (k := 2) 0 rfl rfl)) ?_; clear S a; intro a S
    refine st_store (sz := 2) (us := [_, _]) S M 2 rfl (by kernel_rfl) rfl rfl rfl rfl rfl rfl (by first | decide | (simp; done) | (simp; omega)) ?_; clear M; intro w23 M
    simp only [putL, List.set_cons_zero, List.set_cons_succ, Nat.reduceAdd] at M
    refine wpList_nil ?_
    refine block_normal ?_
    refine nxF ?_
    refine st_go [1] S rfl (by kernel_rfl) ?_; clear S a; intro a S
    (first | refine st_y S rfl rfl rfl (y_addN S rfl rfl (by omega)) ?_ | refine st_y S rfl rfl rfl (y_int S rfl rfl rfl) ?_); clear S a; intro a S
    refine st_go [1] S rfl (by kernel_rfl) ?_; clear S a; intro a S
    refine nxC ?_
    skip
    replace M := M.drop 0
    simp only [List.eraseIdx_cons_succ, List.eraseIdx_cons_zero] at M
    replace M := M.front 1 rfl
    simp only [List.eraseIdx_cons_succ, List.eraseIdx_cons_zero] at M
    replace M := M.front 1 rfl
    simp only [List.eraseIdx_cons_succ, List.eraseIdx_cons_zero] at M
    first
      | (obtain ⟨-, ho, J1, rfl⟩ : er = 0 ∧ appOk t (JLog.nx t 3 put) bs ∧ JLog S1 t 3 (put ++ [bs]) c ∧ n' = JLog.nx t 3 (put ++ [bs]) := by
           rcases hJ with h | ⟨h, -⟩
           · exact h
           · exact absurd h94 h
         have hpl : (put ++ [bs]).length = put.length + 1 := by simp
         refine ⟨xs.length - (i + 1), by omega, i + 1, put ++ [bs], pvs ++ [_], S1, E1, c, mm, aP, cP, ?l1, ?l2, by omega, rfl, J1, by rw [hpl]; omega, by rw [List.take_append_of_le_length hmm]; exact hc, hPv.snoc hxb, hE1, by rw [hpl]; exact S.sub _ rfl, ?MM⟩
         case MM =>
           rw [hpl]
           exact M)
      | (obtain ⟨-, ho, rfl, rfl⟩ : er ≠ 0 ∧ ¬ appOk t (JLog.nx t 3 put) bs ∧ S1 = S0 ∧ n' = JLog.nx t 3 put := by
           rcases hJ with ⟨h, -⟩ | h
           · exact absurd h h94
           · exact h
         exact ⟨xs.length - (i + 1), by omega, i + 1, put, pvs, S1, E1, c, mm, qa, qc, _, _, by omega, rfl, J, hmm, hc, hPv, hE1, S.sub _ rfl, M⟩)
  clear S; intro h94 S
  refine st_condT S rfl ?_
  refine wp_region_lit ?_
  refine st_go [1, 1, 1] S rfl (by kernel_rfl) ?_; clear S a; intro a S
  refine st_y S rfl rfl rfl (y_indexR (e := 32) (sz := 1) S (by kernel_rfl) rfl (M.arg hv1) rfl (by first | omega | (simp; done) | (simp; omega))) ?_; clear S a; intro a S
  try simp only [Int.toNat_natCast, Nat.mul_one, Nat.zero_add] at S
  refine st_y S rfl rfl rfl (y_load S (by kernel_rfl) rfl ((M.arg hv1).at_.one i hx)) ?_; clear S a; intro a S
  obtain ⟨xa, xc, rfl, -, -⟩ := hxb.form
  refine st_lit (ps := [(0, (Operand.tmp 99))]) (e := 32) (sz := 1) (zl := [.slice none 0 0]) (cs := [_]) S M rfl rfl (by kernel_rfl) rfl (rfl) ?_; clear S M a; intro a w20 bZ2 S M hB
  refine st_append (e := 32) (sz := 1) (by_ := 24) (zc := [.slice none 0 0]) S M 2 rfl rfl (by kernel_rfl) rfl (by decide) rfl rfl rfl (show Rd _ _ _ 1 _ 1 [_] from M.sliceAt 0 rfl (M.cellsAt (k := 1) 0 rfl rfl) rfl (Nat.le_refl _) (by unfold maxLen; omega)) (rfl) (by omega) (by unfold maxLen; omega) ?_; clear S M a; intro a w21 vA loA hiA S M
  obtain ⟨aP, cP, rfl, -, -⟩ := (M.readAll 0 rfl (by unfold maxLen; omega)).form
  replace M := M.drop 1
  simp only [List.eraseIdx_cons_succ, List.eraseIdx_cons_zero] at M
  refine st_y S rfl rfl rfl (y_assign S rfl) ?_; clear S a; intro a S
  refine nxB ?_
  refine st_y S rfl rfl rfl (y_loadAgg (cs := [_, _]) S (by kernel_rfl) rfl rfl (M.cellsAt (k := 2) 1 rfl rfl)) ?_; clear S a; intro a S
  refine st_store (sz := 2) (us := [_, _]) S M 2 rfl (by kernel_rfl) rfl rfl rfl rfl rfl rfl (by first | decide | (simp; done) | (simp; omega)) ?_; clear M; intro w22 M
  simp only [putL, List.set_cons_zero, List.set_cons_succ, Nat.reduceAdd] at M
  refine wpList_nil ?_
  refine block_normal ?_
  refine nxF ?_
  refine st_go [1] S rfl (by kernel_rfl) ?_; clear S a; intro a S
  (first | refine st_y S rfl rfl rfl (y_addN S rfl rfl (by omega)) ?_ | refine st_y S rfl rfl rfl (y_int S rfl rfl rfl) ?_); clear S a; intro a S
  refine st_go [1] S rfl (by kernel_rfl) ?_; clear S a; intro a S
  refine nxC ?_
  skip
  replace M := M.drop 1
  simp only [List.eraseIdx_cons_succ, List.eraseIdx_cons_zero] at M
  replace M := M.front 1 rfl
  simp only [List.eraseIdx_cons_succ, List.eraseIdx_cons_zero] at M
  replace M := M.front 1 rfl
  simp only [List.eraseIdx_cons_succ, List.eraseIdx_cons_zero] at M
  first
    | (obtain ⟨-, ho, J1, rfl⟩ : er = 0 ∧ appOk t (JLog.nx t 3 put) bs ∧ JLog S1 t 3 (put ++ [bs]) c ∧ n' = JLog.nx t 3 (put ++ [bs]) := by
         rcases hJ with h | ⟨h, -⟩
         · exact h
         · exact absurd h94 h
       have hpl : (put ++ [bs]).length = put.length + 1 := by simp
       refine ⟨xs.length - (i + 1), by omega, i + 1, put ++ [bs], pvs ++ [_], S1, E1, c, mm, aP, cP, ?l1, ?l2, by omega, rfl, J1, by rw [hpl]; omega, by rw [List.take_append_of_le_length hmm]; exact hc, hPv.snoc hxb, hE1, by rw [hpl]; exact S.sub _ rfl, ?MM⟩
       case MM =>
         rw [hpl]
         exact M)
    | (obtain ⟨-, ho, rfl, rfl⟩ : er ≠ 0 ∧ ¬ appOk t (JLog.nx t 3 put) bs ∧ S1 = S0 ∧ n' = JLog.nx t 3 put := by
         rcases hJ with ⟨h, -⟩ | h
         · exact absurd h h94
         · exact h
       exact ⟨xs.length - (i + 1), by omega, i + 1, put, pvs, S1, E1, c, mm, qa, qc, _, _, by omega, rfl, J, hmm, hc, hPv, hE1, S.sub _ rfl, M⟩)

end Go.Proofs.Ytafejnbfgkkjkaa
