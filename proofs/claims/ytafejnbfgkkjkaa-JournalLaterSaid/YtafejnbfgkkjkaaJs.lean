/-
  law06.JournalLater, walked.
-/
import Derived.Test.YtafejnbfgkkjkaaJr
import Derived.Test.YtafejnbfgkkjkaaJm
namespace Go.Proofs.Ytafejnbfgkkjkaa
open Go.RowKit Go.Sort

theorem allOne_vals : ∀ rs : List RB, allOne (rs.map RB.val) = true
  | [] => rfl
  | r :: rs => by simp only [List.map_cons, allOne, RB.val, oneB, Bool.true_and]; exact allOne_vals rs
theorem brows_want {w0 w : World} {H : List Ent} {lo hi : Nat} {v : Value} {rs : List RB} {pvs : List Value} {new : List (List UInt8)} (M : Mem w0 w H) (h : rowE lo hi 32 1 v (rs.length + new.length) (rs.map RB.val ++ pvs) ∈ H) (he : ∀ r ∈ rs, r.ent ∈ H) (hs : ∀ r ∈ rs, r.bs.length ≤ 90) (hP : PutV w0 pvs new) (hl : rs.length + new.length ≤ 1000) : BRows w v (rs.map RB.bs ++ new) := by
  refine ⟨rs.map RB.val ++ pvs, by rw [List.length_append, List.length_map]; exact M.readIn h (by unfold maxLen; omega), fun i x bs hx hb => ?_⟩
  rcases Nat.lt_or_ge i rs.length with h1 | h1
  · rw [List.getElem?_append_left (by simpa using h1), List.getElem?_map] at hx hb
    cases hr : rs[i]? with
    | none => rw [hr] at hx; cases hx
    | some r =>
      rw [hr] at hx hb
      obtain rfl := Option.some.inj hx
      obtain rfl := Option.some.inj hb
      have hm := List.mem_of_getElem? hr
      exact M.readB (he r hm) (by have := hs r hm; omega)
  · rw [List.getElem?_append_right (by simpa using h1), List.length_map] at hx hb
    exact M.argW (hP.2 _ x bs hx hb)
set_option maxHeartbeats 4000000 in
theorem laterLaw_any (v u : Value) (xs ys : List (List UInt8)) (pa : Option Addr) (pc : Nat) (plan : List (Int × Int)) (qa : Option Addr) (qc : Nat) (late : List (Int × Int)) (w : World) (hv : BRows w v xs) (hu : BRows w u ys) (hp : Rd 0 w.heap.size w 2 (.slice pa plan.length pc) plan.length (kcells plan)) (hq : Rd 0 w.heap.size w 2 (.slice qa late.length qc) late.length (kcells late)) :
    Calls Try.prog 4 #[v, u, .slice pa plan.length pc, .slice qa late.length qc] w fun e w' => e = .returned (.bool true) ∧ Below w.heap.size w w' := by
  have M := Mem.start w
  obtain ⟨vs, hv1, hv2⟩ := hv
  obtain ⟨us, hu1, hu2⟩ := hu
  have hvl := hv1.1
  have hul := hu1.1
  refine calls_enter Try.func4 rfl 158 rfl rfl ?_; intro a S
  refine nxD ?_
  refine st_go [1] S rfl (by kernel_rfl) ?_; clear S a; intro a S
  refine nxC ?_
  refine wp_seq ?_
  refine nxD ?_
  refine st_go [1] S rfl (by kernel_rfl) ?_; clear S a; intro a S
  refine st_y S rfl rfl rfl (y_lenR (E := 32) S rfl (M.arg hv1) (by kernel_rfl)) ?_; clear S a; intro a S
  refine st_go [1, 1] S rfl (by kernel_rfl) ?_; clear S a; intro a S
  refine st_if (t := 26) S rfl ?_ ?_
  · clear S; intro h26 S
    refine st_go [0, 0, 0, 1, 1, 0, 0, 0, 1, 1, 0, 0, 0, 1] S rfl (by kernel_rfl) ?_; clear S a; intro a S
    replace S := S.sub [(0, _), (1, _), (2, _), (3, _), (8, _), (40, _)] rfl
    refine nxC ?_
    refine st_condT S rfl ?_
    refine nxD ?_
    refine st_call (xs := []) S (enters_of Try.func7 (by decide) rfl) rfl rfl rfl (wakes06 _) ?_
    rintro _ w1 ⟨rfl, hK⟩; refine ⟨_, rfl, ?_⟩; clear S a; intro a S; replace M := M.grow hK
    refine st_go [1] S rfl (by kernel_rfl) ?_; clear S a; intro a S
    refine nxC ?_
    refine wp_ret ?_
    refine then_ret ?_
    refine end_one S rfl (res_tmp rfl) ?_
    exact ⟨rfl, M.below⟩
  clear S; intro h26 S
  refine st_go [1] S rfl (by kernel_rfl) ?_; clear S a; intro a S
  refine st_y S rfl rfl rfl (y_lenR (E := 32) S rfl (M.arg hu1) (by kernel_rfl)) ?_; clear S a; intro a S
  refine st_go [1, 1, 1] S rfl (by kernel_rfl) ?_; clear S a; intro a S
  refine st_if (t := 31) S rfl ?_ ?_
  · clear S; intro h31 S
    refine st_go [0, 0, 0, 1, 1, 0, 0, 0, 1] S rfl (by kernel_rfl) ?_; clear S a; intro a S
    replace S := S.sub [(0, _), (1, _), (2, _), (3, _), (8, _), (40, _)] rfl
    refine nxC ?_
    refine st_condT S rfl ?_
    refine nxD ?_
    refine st_call (xs := []) S (enters_of Try.func7 (by decide) rfl) rfl rfl rfl (wakes06 _) ?_
    rintro _ w2 ⟨rfl, hK⟩; refine ⟨_, rfl, ?_⟩; clear S a; intro a S; replace M := M.grow hK
    refine st_go [1] S rfl (by kernel_rfl) ?_; clear S a; intro a S
    refine nxC ?_
    refine wp_ret ?_
    refine then_ret ?_
    refine end_one S rfl (res_tmp rfl) ?_
    exact ⟨rfl, M.below⟩
  clear S; intro h31 S
  refine st_go [1] S rfl (by kernel_rfl) ?_; clear S a; intro a S
  refine st_y S rfl rfl rfl (y_lenR (E := 99) S rfl (M.arg hp) (by kernel_rfl)) ?_; clear S a; intro a S
  refine st_go [1, 1, 1] S rfl (by kernel_rfl) ?_; clear S a; intro a S
  refine st_if (t := 36) S rfl ?_ ?_
  · clear S; intro h36 S
    refine st_go [0, 0, 0, 1] S rfl (by kernel_rfl) ?_; clear S a; intro a S
    replace S := S.sub [(0, _), (1, _), (2, _), (3, _), (8, _), (40, _)] rfl
    refine nxC ?_
    refine st_condT S rfl ?_
    refine nxD ?_
    refine st_call (xs := []) S (enters_of Try.func7 (by decide) rfl) rfl rfl rfl (wakes06 _) ?_
    rintro _ w3 ⟨rfl, hK⟩; refine ⟨_, rfl, ?_⟩; clear S a; intro a S; replace M := M.grow hK
    refine st_go [1] S rfl (by kernel_rfl) ?_; clear S a; intro a S
    refine nxC ?_
    refine wp_ret ?_
    refine then_ret ?_
    refine end_one S rfl (res_tmp rfl) ?_
    exact ⟨rfl, M.below⟩
  clear S; intro h36 S
  refine st_go [1] S rfl (by kernel_rfl) ?_; clear S a; intro a S
  refine st_y S rfl rfl rfl (y_lenR (E := 99) S rfl (M.arg hq) (by kernel_rfl)) ?_; clear S a; intro a S
  refine st_go [1, 1] S rfl (by kernel_rfl) ?_; clear S a; intro a S
  replace S := S.sub [(0, _), (1, _), (2, _), (3, _), (8, _), (40, _)] rfl
  refine nxC ?_
  refine st_if (t := 40) S rfl ?_ ?_
  · clear S; intro h40 S
    refine st_condT S rfl ?_
    refine nxD ?_
    refine st_call (xs := []) S (enters_of Try.func7 (by decide) rfl) rfl rfl rfl (wakes06 _) ?_
    rintro _ w4 ⟨rfl, hK⟩; refine ⟨_, rfl, ?_⟩; clear S a; intro a S; replace M := M.grow hK
    refine st_go [1] S rfl (by kernel_rfl) ?_; clear S a; intro a S
    refine nxC ?_
    refine wp_ret ?_
    refine then_ret ?_
    refine end_one S rfl (res_tmp rfl) ?_
    exact ⟨rfl, M.below⟩
  clear S; intro h40 S
  refine st_condF S rfl ?_
  refine wp_skip ?_
  refine then_normal ?_
  refine wp_seq ?_
  have hx10 : xs.length ≤ 10 := by omega
  have hy10 : ys.length ≤ 10 := by omega
  refine wp_region_lit ?_
  refine st_call (xs := []) S (enters_of Try.func8 (by decide) rfl) rfl rfl rfl (new_any _) ?_
  rintro _ w5 ⟨b, E, rfl, hE, M1⟩; refine ⟨_, rfl, ?_⟩; clear S a; intro a S; replace M := M.join M1; clear M1
  rw [List.append_nil] at M
  refine st_go [1] S rfl (by kernel_rfl) ?_; clear S a; intro a S
  refine nxA ?_
  refine st_y S rfl rfl rfl (y_build (ps := [(0, (Operand.const (Value.int IntKind.i64 1))), (1, (Operand.const (Value.int IntKind.i64 1)))]) (pl := [(0, 1), (1, 1)]) (z := [.int .i64 0, .int .i64 0]) (cs := [_, _]) S (by kernel_rfl) rfl (rfl)) ?_; clear S a; intro a S
  refine st_alloc S M rfl rfl #[.int .i64 0, .int .i64 0] (by kernel_rfl) ?_; clear S M a; intro a w6 bL S M hB
  refine st_store (sz := 2) (us := [_, _]) S M 0 rfl (by kernel_rfl) rfl rfl rfl rfl rfl rfl (by first | decide | (simp; done) | (simp; omega)) ?_; clear M; intro w7 M
  simp only [putL, List.set_cons_zero, List.set_cons_succ, Nat.reduceAdd] at M
  refine nxC ?_
  refine wp_seq ?_
  refine nxD ?_
  refine st_go [1] S rfl (by kernel_rfl) ?_; clear S a; intro a S
  refine nxC ?_
  refine wp_block ?_
  refine wp_loop_g (fun m a w' => ∃ (i : Nat) (put : List (List UInt8)) (S0 : DS) (E : List Ent), i ≤ xs.length ∧ m = xs.length - i ∧ JLog S0 1 1 put 0 ∧ DkE b S0 E ∧ Sees 158 a [(0, v), (1, u), (2, .slice pa plan.length pc), (3, .slice qa late.length qc), (9, .pointer (some ⟨b, 0, none⟩)), (10, .pointer (some ⟨bL, 0, none⟩)), (11, .int .i64 (i : Int))] ∧ Mem w w' (.blk bL #[.int .i64 1, .int .i64 (JLog.nx 1 1 put)] 27 :: E)) (xs.length) ?_ ?_
  · skip
    exact ⟨0, [], DS.new, E, Nat.zero_le _, rfl, JLog.start 1 1, hE, S.sub _ rfl, M⟩
  clear S M a; intro m a wl
  rintro ⟨i, put, S0, E, hi', rfl, J, hE, S, M⟩
  have hpl24 := J.puts
  refine wp_seq ?_
  refine nxD ?_
  refine st_go [1, 1] S rfl (by kernel_rfl) ?_; clear S a; intro a S
  refine st_y S rfl rfl rfl (y_lenR (E := 32) S rfl (M.arg hv1) (by kernel_rfl)) ?_; clear S a; intro a S
  refine st_go [1] S rfl (by kernel_rfl) ?_; clear S a; intro a S
  refine nxC ?_
  refine st_if (t := 47) S rfl ?_ ?_
  · clear S; intro h47 S
    refine st_condT S rfl ?_
    refine wp_skip ?_
    refine then_normal ?_
    refine wp_seq ?_
    refine wp_block ?_
    obtain ⟨x, hx⟩ : ∃ x, vs[i]? = some x := ⟨_, List.getElem?_eq_getElem (by omega)⟩
    obtain ⟨bs, hbs⟩ : ∃ bs, xs[i]? = some bs := ⟨_, List.getElem?_eq_getElem (by omega)⟩
    have hxb := hv2 i x bs hx hbs
    refine wp_regionK [6, 10] #[false, false, false, false, false, false, false, false, false, false, false] rfl M (by kernel_rfl) ?_; clear M; intro w8 M
    refine k_pure (listed' := #[true, false, false, false, false, false, false, false, false, false, false]) 0 S rfl rfl rfl rfl (by kernel_rfl) rfl (fun _ d _ _ _ h => by cases d <;> exact h) (fun w => y_move S rfl) ?_; clear S a; intro a S
    refine k_read (listed' := #[true, true, false, false, false, false, false, false, false, false, false]) 1 S rfl rfl rfl rfl (by kernel_rfl) rfl (fun _ d _ _ _ h => by cases d <;> exact h) (fun w hW => have M := M.grow hW; y_loadAgg (cs := [_, _]) S (by kernel_rfl) rfl rfl (M.cellsAt (k := 2) 0 rfl rfl)) ?_; clear S a; intro a S
    refine k_pure (listed' := #[true, true, true, false, false, false, false, false, false, false, false]) 2 S rfl rfl rfl rfl (by kernel_rfl) rfl (fun _ d _ _ _ h => by cases d <;> exact h) (fun w => y_move S rfl) ?_; clear S a; intro a S
    refine k_pure (listed' := #[true, true, true, true, false, false, false, false, false, false, false]) 3 S rfl rfl rfl rfl (by kernel_rfl) rfl (fun _ d _ _ _ h => by cases d <;> exact h) (fun w => y_move S rfl) ?_; clear S a; intro a S
    refine k_read (listed' := #[true, true, true, true, true, false, false, false, false, false, false]) 4 S rfl rfl rfl rfl (by kernel_rfl) rfl (fun _ d _ _ _ h => by cases d <;> exact h) (fun w hW => have M := M.grow hW; y_indexR (e := 32) (sz := 1) S (by kernel_rfl) rfl (M.arg hv1) rfl (by first | omega | (simp; done) | (simp; omega))) ?_; clear S a; intro a S
    try simp only [Int.toNat_natCast, Nat.mul_one, Nat.zero_add] at S
    refine k_read (listed' := #[true, true, true, true, true, true, false, false, false, false, false]) 5 S rfl rfl rfl rfl (by kernel_rfl) rfl (fun _ d _ _ _ h => by cases d <;> exact h) (fun w hW => have M := M.grow hW; y_load S (by kernel_rfl) rfl ((M.arg hv1).at_.one i hx)) ?_; clear S a; intro a S
    refine k_one (listed' := #[true, true, true, true, true, true, true, false, false, false, false]) 6 rfl (by kernel_rfl) rfl ?_
    refine st_call (xs := [(Operand.tmp 51), (Operand.tmp 52), (Operand.const (Value.int IntKind.i64 1)), (Operand.tmp 56)]) S (enters_of Try.func9 (by decide) rfl) rfl rfl rfl (append_any (A := [_]) 1 (JLog.nx 1 1 put) 1 x bs hE M (RdH.arg hxb) J.up (J.may (by omega)) (by have := J.inv.len; unfold JLog.nx; omega) (by omega) (fun k => by have := J.cache k; omega)) ?_
    rintro _ w9 ⟨n', er, S1, rfl, hP, E1, hE1, M1⟩; refine ⟨_, rfl, ?_⟩; clear S M a; intro a S; have M := M1; clear M1
    simp only [List.cons_append, List.nil_append] at M
    refine wpList_nil ?_; refine then_normal ?_; refine ⟨fun h => absurd h (by decide), ?_⟩
    refine k_pure (listed' := #[true, true, true, true, true, true, true, true, false, false, false]) 7 S rfl rfl rfl rfl (by kernel_rfl) rfl (fun _ d _ _ _ h => by cases d <;> exact h) (fun w => y_move S rfl) ?_; clear S a; intro a S
    refine k_pure (listed' := #[true, true, true, true, true, true, true, true, true, false, false]) 8 S rfl rfl rfl rfl (by kernel_rfl) rfl (fun _ d _ _ _ h => by cases d <;> exact h) (fun w => y_extract S rfl rfl) ?_; clear S a; intro a S
    refine k_pure (listed' := #[true, true, true, true, true, true, true, true, true, true, false]) 9 S rfl rfl rfl rfl (by kernel_rfl) rfl (fun _ d _ _ _ h => by cases d <;> exact h) (fun w => y_extract S rfl rfl) ?_; clear S a; intro a S
    refine k_one (listed' := #[true, true, true, true, true, true, true, true, true, true, true]) 10 rfl (by kernel_rfl) rfl ?_
    refine st_store (sz := 2) (us := [_, _]) S M 0 rfl (by kernel_rfl) rfl rfl rfl rfl rfl rfl (by first | decide | (simp; done) | (simp; omega)) ?_; clear M; intro w10 M
    simp only [putL, List.set_cons_zero, List.set_cons_succ, Nat.reduceAdd] at M
    refine wpList_nil ?_; refine then_normal ?_; refine ⟨fun h => absurd h (by decide), ?_⟩
    refine k_end (by kernel_rfl) ?_
    refine block_normal ?_
    refine nxF ?_
    refine st_go [1] S rfl (by kernel_rfl) ?_; clear S a; intro a S
    (first | refine st_y S rfl rfl rfl (y_addN S rfl rfl (by omega)) ?_ | refine st_y S rfl rfl rfl (y_int S rfl rfl rfl) ?_); clear S a; intro a S
    refine st_go [1] S rfl (by kernel_rfl) ?_; clear S a; intro a S
    replace S := S.sub [(0, _), (1, _), (2, _), (3, _), (9, _), (10, _), (47, _), (11, _)] rfl
    refine nxC ?_
    rcases J.app (by omega) (by omega) hP with ⟨-, -, J1, rfl⟩ | ⟨-, -, rfl, rfl⟩
    · exact ⟨xs.length - (i + 1), by omega, i + 1, put ++ [bs], S1, E1, by omega, rfl, J1, hE1, S.sub _ rfl, M⟩
    · exact ⟨xs.length - (i + 1), by omega, i + 1, put, S1, E1, by omega, rfl, J, hE1, S.sub _ rfl, M⟩
  clear S; intro h47 S
  refine st_condF S rfl ?_
  refine wp_exit ?_
  refine then_exit ?_
  refine then_exit ?_
  refine block_hit ?_
  refine then_normal ?_
  refine wp_seq ?_
  refine nxD ?_
  refine st_go [1, 1] S rfl (by kernel_rfl) ?_; clear S a; intro a S
  refine st_call (xs := [(Operand.tmp 60), (Operand.tmp 61)]) S (enters_of Try.func12 (by decide) rfl) rfl rfl rfl (crash_any (A := [_]) pa pc plan hE M (fun W M => M.argW hp) J.up (fun k => by have := J.cache k; omega)) ?_
  rintro _ w11 ⟨rfl, E1, hE1, M1⟩; refine ⟨_, rfl, ?_⟩; clear S M a; intro a S; have M := M1; clear M1
  simp only [List.cons_append, List.nil_append] at M
  refine st_go [1, 1] S rfl (by kernel_rfl) ?_; clear S a; intro a S
  refine st_if (t := 64) S rfl ?_ ?_
  · clear S; intro h64 S
    exfalso; simp at h64
  clear S; intro h64 S
  refine st_go [1] S rfl (by kernel_rfl) ?_; clear S a; intro a S
  refine st_call (xs := [(Operand.tmp 65)]) S (enters_of Try.func13 (by decide) rfl) rfl rfl rfl (up_any (A := [_]) hE1 M rfl) ?_
  rintro _ w12 ⟨rfl, E2, hE2, M1⟩; refine ⟨_, rfl, ?_⟩; clear S M a; intro a S; have M := M1; clear M1
  simp only [List.cons_append, List.nil_append] at M
  refine st_go [1, 1] S rfl (by kernel_rfl) ?_; clear S a; intro a S
  refine nxC ?_
  refine st_if (t := 68) S rfl ?_ ?_
  · clear S; intro h68 S
    exfalso; simp at h68
  clear S; intro h68 S
  refine st_condF S rfl ?_
  refine wp_skip ?_
  refine nxE ?_
  refine st_go [1] S rfl (by kernel_rfl) ?_; clear S a; intro a S
  refine st_call (xs := [(Operand.tmp 70), (Operand.const (Value.int IntKind.i64 1))]) S (enters_of Try.func10 (by decide) rfl) rfl rfl rfl (Scan_any (A := [_]) (S0 := S0.again plan) 1 hE2 M rfl (fun k => Nat.zero_le _) (by omega)) ?_
  rintro _ w13 ⟨rs, ra, rc, lo3, hi3, rfl, hrs, hr90, hr24, M1⟩; refine ⟨_, rfl, ?_⟩; clear S M a; intro a S
  have M := M1.perm (List.Perm.cons _ (perm_shift (rs.map RB.ent) [_] E2)); clear M1
  simp only [List.cons_append, List.nil_append] at M
  obtain ⟨k, -, hk2, hsl, hsn, hkept⟩ := found_at J (by omega) (Nat.zero_le _) rfl plan
  rw [hsl, beginsL_snd] at hrs
  have hrk : rs.length = k := by
    have := congrArg List.length hrs
    rw [List.length_map, List.length_take] at this; omega
  obtain ⟨p, hpd⟩ : ∃ p, p = (framesL 1 1 (put.take k)).length := ⟨_, rfl⟩
  have hp24 : p ≤ 24 := by
    have := framesL_take_le 1 1 put k
    have := J.inv.len
    omega
  have hnx0 : JLog.nx 1 1 (put.take k) = JNew.nx p [] := by rw [hpd]; simp [JNew.nx, JLog.nx, framesL]
  rw [hsn, hnx0] at S
  refine st_go [1, 1, 1, 1] S rfl (by kernel_rfl) ?_; clear S a; intro a S
  refine st_alloc S M rfl rfl #[.int .i64 0, .int .i64 0] (by kernel_rfl) ?_; clear S M a; intro a w14 bG S M hB
  refine st_go [1] S rfl (by kernel_rfl) ?_; clear S a; intro a S
  refine st_store (sz := 2) (us := [_, _]) S M 0 rfl (by kernel_rfl) rfl rfl rfl rfl rfl rfl (by first | decide | (simp; done) | (simp; omega)) ?_; clear M; intro w15 M
  simp only [putL, List.set_cons_zero, List.set_cons_succ, Nat.reduceAdd] at M
  refine st_go [1] S rfl (by kernel_rfl) ?_; clear S a; intro a S
  replace S := S.sub [(0, _), (1, _), (2, _), (3, _), (9, _), (10, _), (11, _), (47, _), (68, _), (13, _), (12, _), (14, _)] rfl
  refine nxC ?_
  refine wp_seq ?_
  refine nxD ?_
  refine st_go [1, 1] S rfl (by kernel_rfl) ?_; clear S a; intro a S
  refine nxC ?_
  refine st_if (t := 76) S rfl ?_ ?_
  · clear S; intro h76 S
    exact absurd rfl h76
  clear S; intro h76 S
  refine st_condF S rfl ?_
  refine wp_skip ?_
  refine nxE ?_
  refine st_go [1] S rfl (by kernel_rfl) ?_; clear S a; intro a S
  refine nxA ?_
  refine st_go [1, 1] S rfl (by kernel_rfl) ?_; clear S a; intro a S
  replace M := M.rowNil 32 1
  refine st_append (e := 32) (sz := 1) (by_ := 24) (zc := [.slice none 0 0]) S M 0 rfl rfl (by kernel_rfl) rfl (by decide) rfl rfl rfl (M.readAll 2 rfl (by unfold maxLen; omega)) (allOne_vals _) (by omega) (by unfold maxLen; omega) ?_; clear S M a; intro a w16 vA loA hiA S M
  obtain ⟨aW, cW, rfl, -, -⟩ := (M.readAll 0 rfl (by unfold maxLen; omega)).form
  rw [Nat.zero_add, List.nil_append] at M
  rw [Nat.zero_add] at S
  replace M := M.drop 2
  simp only [List.eraseIdx_cons_succ, List.eraseIdx_cons_zero] at M
  replace M := M.drop 2
  simp only [List.eraseIdx_cons_succ, List.eraseIdx_cons_zero] at M
  refine st_y S rfl rfl rfl (y_assign S rfl) ?_; clear S a; intro a S
  refine nxA ?_
  refine st_go [1] S rfl (by kernel_rfl) ?_; clear S a; intro a S
  refine st_y S rfl rfl rfl (y_lenR (E := 32) S rfl (M.readAll 0 rfl (by unfold maxLen; omega)) (by kernel_rfl)) ?_; clear S a; intro a S
  refine st_go [1] S rfl (by kernel_rfl) ?_; clear S a; intro a S
  refine nxC ?_
  refine wp_seq ?_
  refine nxD ?_
  refine st_go [1] S rfl (by kernel_rfl) ?_; clear S a; intro a S
  refine nxC ?_
  refine wp_block ?_
  refine wp_loop_g (fun m a w' => ∃ (i : Nat) (new : List (List UInt8)) (pvs : List Value) (S2 : DS) (E : List Ent) (na : Option Addr) (nc lo hi : Nat), i ≤ ys.length ∧ m = ys.length - i ∧ new.length ≤ i ∧ JNew (fun j => secAt (S0.again plan) 1 j) S2 p new ∧ PutV w pvs new ∧ DkE b S2 E ∧ Sees 158 a [(1, u), (3, .slice qa late.length qc), (9, .pointer (some ⟨b, 0, none⟩)), (13, .pointer (some ⟨bG, 0, none⟩)), (15, .slice na (rs.length + new.length) nc), (16, .int .i64 (rs.length : Int)), (17, .int .i64 (i : Int))] ∧ Mem w w' (rowE lo hi 32 1 (.slice na (rs.length + new.length) nc) (rs.length + new.length) (rs.map RB.val ++ pvs) :: .blk bG #[.int .i64 1, .int .i64 (JNew.nx p new)] 27 :: (rs.map RB.ent ++ E))) (ys.length) ?_ ?_
  · skip
    exact ⟨0, [], [], S0.again plan, E2, aW, cW, _, _, Nat.zero_le _, rfl, Nat.zero_le _, ⟨by simpa [framesL] using hp24, fun i x h => by simp [framesL] at h, fun j _ _ => rfl, fun q h => (by cases h), rfl, fun k => Nat.zero_le _⟩, PutV.nil w, hE2, S.sub _ rfl, by rw [List.append_nil]; exact M⟩
  clear S M a; intro m a wl
  rintro ⟨i, new, pvs, S2, E, na, nc, lo, hi, hi', rfl, hnl, N, hPv, hE, S, M⟩
  have hnxe : JNew.nx p new = 1 + (p : Int) + ((framesL 2 (1 + (p : Int)) new).length : Int) := rfl
  have hle := N.le
  refine wp_seq ?_
  refine nxD ?_
  refine st_go [1, 1] S rfl (by kernel_rfl) ?_; clear S a; intro a S
  refine st_y S rfl rfl rfl (y_lenR (E := 32) S rfl (M.arg hu1) (by kernel_rfl)) ?_; clear S a; intro a S
  refine st_go [1] S rfl (by kernel_rfl) ?_; clear S a; intro a S
  refine nxC ?_
  refine st_fi (t := 85) S rfl ?_ ?_
  · clear S; intro h85 S
    refine st_condF S rfl ?_
    refine wp_exit ?_
    refine then_exit ?_
    refine then_exit ?_
    refine block_hit ?_
    refine then_normal ?_
    refine wp_seq ?_
    refine nxD ?_
    refine st_go [1] S rfl (by kernel_rfl) ?_; clear S a; intro a S
    refine st_call (xs := [(Operand.tmp 108)]) S (enters_of Try.func14 (by decide) rfl) rfl rfl rfl (jflush_any (A := _ :: _ :: rs.map RB.ent) hE M N.up (fun k => by have := N.small k; omega)) ?_
    rintro _ w28 ⟨rfl, E3, hE3, M1⟩; refine ⟨_, rfl, ?_⟩; clear S M a; intro a S; have M := M1; clear M1
    simp only [List.cons_append, List.nil_append] at M
    refine st_go [1, 1] S rfl (by kernel_rfl) ?_; clear S a; intro a S
    refine st_if (t := 111) S rfl ?_ ?_
    · clear S; intro h111 S
      exfalso; simp at h111
    clear S; intro h111 S
    refine st_go [1, 1] S rfl (by kernel_rfl) ?_; clear S a; intro a S
    refine st_call (xs := [(Operand.tmp 112), (Operand.tmp 113)]) S (enters_of Try.func12 (by decide) rfl) rfl rfl rfl (crash_any (A := _ :: _ :: rs.map RB.ent) (S0 := S2.flush) qa qc late hE3 M (fun W M => M.argW hq) N.up (fun k => Nat.zero_le _)) ?_
    rintro _ w29 ⟨rfl, E4, hE4, M1⟩; refine ⟨_, rfl, ?_⟩; clear S M a; intro a S; have M := M1; clear M1
    simp only [List.cons_append, List.nil_append] at M
    refine st_go [1, 1, 1] S rfl (by kernel_rfl) ?_; clear S a; intro a S
    refine st_if (t := 117) S rfl ?_ ?_
    · clear S; intro h117 S
      exfalso; simp at h117
    clear S; intro h117 S
    refine st_go [1] S rfl (by kernel_rfl) ?_; clear S a; intro a S
    refine st_call (xs := [(Operand.tmp 118)]) S (enters_of Try.func13 (by decide) rfl) rfl rfl rfl (up_any (A := _ :: _ :: rs.map RB.ent) hE4 M rfl) ?_
    rintro _ w30 ⟨rfl, E5, hE5, M1⟩; refine ⟨_, rfl, ?_⟩; clear S M a; intro a S; have M := M1; clear M1
    simp only [List.cons_append, List.nil_append] at M
    refine st_go [1, 1] S rfl (by kernel_rfl) ?_; clear S a; intro a S
    replace S := S.sub [(1, _), (3, _), (9, _), (13, _), (15, _), (16, _), (17, _), (85, _), (121, _)] rfl
    refine nxC ?_
    refine st_if (t := 121) S rfl ?_ ?_
    · clear S; intro h121 S
      exfalso; simp at h121
    clear S; intro h121 S
    refine st_condF S rfl ?_
    refine wp_skip ?_
    refine nxE ?_
    refine st_go [1] S rfl (by kernel_rfl) ?_; clear S a; intro a S
    refine st_call (xs := [(Operand.tmp 123), (Operand.const (Value.int IntKind.i64 1))]) S (enters_of Try.func10 (by decide) rfl) rfl rfl rfl (Scan_any (A := _ :: _ :: rs.map RB.ent) (S0 := S2.flush.again late) 1 hE5 M rfl (fun k => Nat.zero_le _) (by omega)) ?_
    rintro _ w31 ⟨rs2, ra2, rc2, lo4, hi4, rfl, hrs2, hr90', hr24', M1⟩; refine ⟨_, rfl, ?_⟩; clear S M a; intro a S
    have M := M1.perm (List.Perm.cons _ (perm_shift (rs2.map RB.ent) [_, _] (rs.map RB.ent ++ E5))); clear M1
    simp only [List.cons_append, List.nil_append] at M
    subst hpd
    have hfin := later_at plan late J hk2 hkept hsl N
    rw [hfin] at hrs2
    have hwant : rs.map RB.bs ++ new = rs2.map RB.bs := by rw [hrs, hrs2]
    have hlen2 : rs2.length = rs.length + new.length := by
      have := congrArg List.length hwant
      simpa using this.symm
    refine st_go [1, 1, 1, 1] S rfl (by kernel_rfl) ?_; clear S a; intro a S
    refine st_alloc S M rfl rfl #[.int .i64 0, .int .i64 0] (by kernel_rfl) ?_; clear S M a; intro a w32 bG2 S M hB
    refine st_go [1] S rfl (by kernel_rfl) ?_; clear S a; intro a S
    refine st_store (sz := 2) (us := [_, _]) S M 0 rfl (by kernel_rfl) rfl rfl rfl rfl rfl rfl (by first | decide | (simp; done) | (simp; omega)) ?_; clear M; intro w33 M
    simp only [putL, List.set_cons_zero, List.set_cons_succ, Nat.reduceAdd] at M
    refine st_go [1] S rfl (by kernel_rfl) ?_; clear S a; intro a S
    refine nxC ?_
    refine wp_seq ?_
    refine nxD ?_
    refine st_go [1, 1, 1] S rfl (by kernel_rfl) ?_; clear S a; intro a S
    refine st_if (t := 130) S rfl ?_ ?_
    · clear S; intro h130 S
      exfalso; simp at h130
    clear S; intro h130 S
    refine st_go [1] S rfl (by kernel_rfl) ?_; clear S a; intro a S
    refine st_y S rfl rfl rfl (y_lenR (E := 32) S rfl (M.readAll 2 rfl (by unfold maxLen; omega)) (by kernel_rfl)) ?_; clear S a; intro a S
    refine st_go [1, 1, 1] S rfl (by kernel_rfl) ?_; clear S a; intro a S
    refine st_fi (t := 135) S rfl ?_ ?_
    · clear S; intro h135 S
      refine st_go [0, 0, 0, 0, 1, 1] S rfl (by kernel_rfl) ?_; clear S a; intro a S
      replace S := S.sub [(1, _), (3, _), (9, _), (13, _), (15, _), (16, _), (17, _), (85, _), (121, _), (20, _), (22, _), (141, _)] rfl
      refine nxC ?_
      refine st_condF S rfl ?_
      refine wp_skip ?_
      refine nxE ?_
      refine st_go [1] S rfl (by kernel_rfl) ?_; clear S a; intro a S
      refine st_y S rfl rfl rfl (y_lenR (E := 32) S rfl (M.readAll 1 rfl (by unfold maxLen; omega)) (by kernel_rfl)) ?_; clear S a; intro a S
      refine st_go [1] S rfl (by kernel_rfl) ?_; clear S a; intro a S
      refine st_y S rfl rfl rfl (y_lenR (E := 32) S rfl (M.readAll 2 rfl (by unfold maxLen; omega)) (by kernel_rfl)) ?_; clear S a; intro a S
      refine st_go [1, 1] S rfl (by kernel_rfl) ?_; clear S a; intro a S
      refine st_fi (t := 147) S rfl ?_ ?_
      · clear S; intro h147 S
        exfalso; omega
      clear S; intro h147 S
      refine st_go [1, 1] S rfl (by kernel_rfl) ?_; clear S a; intro a S
      refine st_y S rfl rfl rfl (y_lenR (E := 32) S rfl (M.readAll 2 rfl (by unfold maxLen; omega)) (by kernel_rfl)) ?_; clear S a; intro a S
      refine st_y S rfl rfl rfl (y_slice02R (e := 32) (sz := 1) S (by kernel_rfl) rfl (M.readAll 1 rfl (by unfold maxLen; omega)) rfl (by first | omega | (simp; done) | (simp; omega))) ?_; clear S a; intro a S
      refine st_go [1] S rfl (by kernel_rfl) ?_; clear S a; intro a S
      refine st_call (xs := [(Operand.tmp 151), (Operand.tmp 152)]) S (enters_of Try.func11 (by decide) rfl) rfl rfl rfl (rows_any _ _ ((rs2.map RB.bs).take (rs.length + new.length)) (rs.map RB.bs ++ new) _ (BRows.cutTo (brows_of (lo := lo4) (hi := hi4) M (.tail _ (.head _)) (fun r hr => .tail _ (.tail _ (.tail _ (.tail _ (List.mem_append_left _ (List.mem_map_of_mem hr)))))) hr90' (by omega)) (by simp; omega)) (brows_want (lo := lo) (hi := hi) M (.tail _ (.tail _ (.head _))) (fun r hr => .tail _ (.tail _ (.tail _ (.tail _ (List.mem_append_right _ (List.mem_append_left _ (List.mem_map_of_mem hr))))))) hr90 hPv (by omega))) ?_
      rintro _ w37 ⟨rfl, hK⟩; refine ⟨_, rfl, ?_⟩; clear S a; intro a S; replace M := M.grow hK
      refine st_go [1, 1] S rfl (by kernel_rfl) ?_; clear S a; intro a S
      refine st_fi (t := 155) S rfl ?_ ?_
      · clear S; intro h155 S
        exfalso; rw [hwant, List.take_of_length_le (by simp; omega)] at h155; simp at h155
      clear S; intro h155 S
      refine st_call (xs := []) S (enters_of Try.func7 (by decide) rfl) rfl rfl rfl (wakes06 _) ?_
      rintro _ w38 ⟨rfl, hK⟩; refine ⟨_, rfl, ?_⟩; clear S a; intro a S; replace M := M.grow hK
      refine st_go [1, 1] S rfl (by kernel_rfl) ?_; clear S a; intro a S
      replace S := S.sub [(1, _), (3, _), (9, _), (13, _), (15, _), (16, _), (17, _), (85, _), (121, _), (20, _), (22, _), (141, _), (8, _)] rfl
      refine nxC ?_
      refine wp_ret ?_
      refine end_one S rfl (res_tmp rfl) ?_
      exact ⟨rfl, M.below⟩
    clear S; intro h135 S
    refine st_go [1, 1] S rfl (by kernel_rfl) ?_; clear S a; intro a S
    refine st_call (xs := [(Operand.tmp 136), (Operand.tmp 137)]) S (enters_of Try.func11 (by decide) rfl) rfl rfl rfl (rows_any _ _ (rs2.map RB.bs) (rs.map RB.bs ++ new) _ (brows_of (lo := lo4) (hi := hi4) M (.tail _ (.head _)) (fun r hr => .tail _ (.tail _ (.tail _ (.tail _ (List.mem_append_left _ (List.mem_map_of_mem hr)))))) hr90' (by omega)) (brows_want (lo := lo) (hi := hi) M (.tail _ (.tail _ (.head _))) (fun r hr => .tail _ (.tail _ (.tail _ (.tail _ (List.mem_append_right _ (List.mem_append_left _ (List.mem_map_of_mem hr))))))) hr90 hPv (by omega))) ?_
    rintro _ w34 ⟨rfl, hK⟩; refine ⟨_, rfl, ?_⟩; clear S a; intro a S; replace M := M.grow hK
    refine st_go [1, 1, 1] S rfl (by kernel_rfl) ?_; clear S a; intro a S
    replace S := S.sub [(1, _), (3, _), (9, _), (13, _), (15, _), (16, _), (17, _), (85, _), (121, _), (20, _), (22, _), (141, _)] rfl
    refine nxC ?_
    refine st_split (t := 141) S rfl ?_ ?_
    · clear S; intro h141 S
      exfalso; simp [hwant] at h141
    clear S; intro h141 S
    refine st_condF S rfl ?_
    refine wp_skip ?_
    refine nxE ?_
    refine st_go [1] S rfl (by kernel_rfl) ?_; clear S a; intro a S
    refine st_y S rfl rfl rfl (y_lenR (E := 32) S rfl (M.readAll 1 rfl (by unfold maxLen; omega)) (by kernel_rfl)) ?_; clear S a; intro a S
    refine st_go [1] S rfl (by kernel_rfl) ?_; clear S a; intro a S
    refine st_y S rfl rfl rfl (y_lenR (E := 32) S rfl (M.readAll 2 rfl (by unfold maxLen; omega)) (by kernel_rfl)) ?_; clear S a; intro a S
    refine st_go [1, 1] S rfl (by kernel_rfl) ?_; clear S a; intro a S
    refine st_fi (t := 147) S rfl ?_ ?_
    · clear S; intro h147 S
      exfalso; omega
    clear S; intro h147 S
    refine st_go [1, 1] S rfl (by kernel_rfl) ?_; clear S a; intro a S
    refine st_y S rfl rfl rfl (y_lenR (E := 32) S rfl (M.readAll 2 rfl (by unfold maxLen; omega)) (by kernel_rfl)) ?_; clear S a; intro a S
    refine st_y S rfl rfl rfl (y_slice02R (e := 32) (sz := 1) S (by kernel_rfl) rfl (M.readAll 1 rfl (by unfold maxLen; omega)) rfl (by first | omega | (simp; done) | (simp; omega))) ?_; clear S a; intro a S
    refine st_go [1] S rfl (by kernel_rfl) ?_; clear S a; intro a S
    refine st_call (xs := [(Operand.tmp 151), (Operand.tmp 152)]) S (enters_of Try.func11 (by decide) rfl) rfl rfl rfl (rows_any _ _ ((rs2.map RB.bs).take (rs.length + new.length)) (rs.map RB.bs ++ new) _ (BRows.cutTo (brows_of (lo := lo4) (hi := hi4) M (.tail _ (.head _)) (fun r hr => .tail _ (.tail _ (.tail _ (.tail _ (List.mem_append_left _ (List.mem_map_of_mem hr)))))) hr90' (by omega)) (by simp; omega)) (brows_want (lo := lo) (hi := hi) M (.tail _ (.tail _ (.head _))) (fun r hr => .tail _ (.tail _ (.tail _ (.tail _ (List.mem_append_right _ (List.mem_append_left _ (List.mem_map_of_mem hr))))))) hr90 hPv (by omega))) ?_
    rintro _ w35 ⟨rfl, hK⟩; refine ⟨_, rfl, ?_⟩; clear S a; intro a S; replace M := M.grow hK
    refine st_go [1, 1] S rfl (by kernel_rfl) ?_; clear S a; intro a S
    refine st_fi (t := 155) S rfl ?_ ?_
    · clear S; intro h155 S
      exfalso; rw [hwant, List.take_of_length_le (by simp; omega)] at h155; simp at h155
    clear S; intro h155 S
    refine st_call (xs := []) S (enters_of Try.func7 (by decide) rfl) rfl rfl rfl (wakes06 _) ?_
    rintro _ w36 ⟨rfl, hK⟩; refine ⟨_, rfl, ?_⟩; clear S a; intro a S; replace M := M.grow hK
    refine st_go [1, 1] S rfl (by kernel_rfl) ?_; clear S a; intro a S
    replace S := S.sub [(1, _), (3, _), (9, _), (13, _), (15, _), (16, _), (17, _), (85, _), (121, _), (20, _), (22, _), (141, _), (8, _)] rfl
    refine nxC ?_
    refine wp_ret ?_
    refine end_one S rfl (res_tmp rfl) ?_
    exact ⟨rfl, M.below⟩
  clear S; intro h85 S
  refine st_condT S rfl ?_
  refine wp_skip ?_
  refine then_normal ?_
  refine wp_seq ?_
  refine wp_block ?_
  obtain ⟨x, hx⟩ : ∃ x, us[i]? = some x := ⟨_, List.getElem?_eq_getElem (by omega)⟩
  obtain ⟨bs, hbs⟩ : ∃ bs, ys[i]? = some bs := ⟨_, List.getElem?_eq_getElem (by omega)⟩
  have hxb := hu2 i x bs hx hbs
  refine wp_cut (fun a w' => ∃ (n' er : Int) (S1 : DS) (E1 : List Ent) (bT : Nat), AppP 1 (JNew.nx p new) 2 bs S2 n' er S1 ∧ DkE b S1 E1 ∧ Sees 158 a [(1, u), (3, .slice qa late.length qc), (9, .pointer (some ⟨b, 0, none⟩)), (13, .pointer (some ⟨bG, 0, none⟩)), (15, .slice na (rs.length + new.length) nc), (16, .int .i64 (rs.length : Int)), (17, .int .i64 (i : Int)), (18, .pointer (some ⟨bT, 0, none⟩)), (19, .int .i64 er)] ∧ Mem w w' (.blk bT #[.int .i64 1, .int .i64 n'] 27 :: rowE lo hi 32 1 (.slice na (rs.length + new.length) nc) (rs.length + new.length) (rs.map RB.val ++ pvs) :: .blk bG #[.int .i64 1, .int .i64 (JNew.nx p new)] 27 :: (rs.map RB.ent ++ E1))) ?_ ?_
  · skip
    refine wp_regionK [6, 11] #[false, false, false, false, false, false, false, false, false, false, false, false, false] rfl M (by kernel_rfl) ?_; clear M; intro w17 M
    refine k_pure (listed' := #[true, false, false, false, false, false, false, false, false, false, false, false, false]) 0 S rfl rfl rfl rfl (by kernel_rfl) rfl (fun _ d _ _ _ h => by cases d <;> exact h) (fun w => y_move S rfl) ?_; clear S a; intro a S
    refine k_read (listed' := #[true, true, false, false, false, false, false, false, false, false, false, false, false]) 1 S rfl rfl rfl rfl (by kernel_rfl) rfl (fun _ d _ _ _ h => by cases d <;> exact h) (fun w hW => have M := M.grow hW; y_loadAgg (cs := [_, _]) S (by kernel_rfl) rfl rfl (M.cellsAt (k := 2) 1 rfl rfl)) ?_; clear S a; intro a S
    refine k_pure (listed' := #[true, true, true, false, false, false, false, false, false, false, false, false, false]) 2 S rfl rfl rfl rfl (by kernel_rfl) rfl (fun _ d _ _ _ h => by cases d <;> exact h) (fun w => y_move S rfl) ?_; clear S a; intro a S
    refine k_pure (listed' := #[true, true, true, true, false, false, false, false, false, false, false, false, false]) 3 S rfl rfl rfl rfl (by kernel_rfl) rfl (fun _ d _ _ _ h => by cases d <;> exact h) (fun w => y_move S rfl) ?_; clear S a; intro a S
    refine k_read (listed' := #[true, true, true, true, true, false, false, false, false, false, false, false, false]) 4 S rfl rfl rfl rfl (by kernel_rfl) rfl (fun _ d _ _ _ h => by cases d <;> exact h) (fun w hW => have M := M.grow hW; y_indexR (e := 32) (sz := 1) S (by kernel_rfl) rfl (M.arg hu1) rfl (by first | omega | (simp; done) | (simp; omega))) ?_; clear S a; intro a S
    try simp only [Int.toNat_natCast, Nat.mul_one, Nat.zero_add] at S
    refine k_read (listed' := #[true, true, true, true, true, true, false, false, false, false, false, false, false]) 5 S rfl rfl rfl rfl (by kernel_rfl) rfl (fun _ d _ _ _ h => by cases d <;> exact h) (fun w hW => have M := M.grow hW; y_load S (by kernel_rfl) rfl ((M.arg hu1).at_.one i hx)) ?_; clear S a; intro a S
    refine k_two (l1 := #[true, true, true, true, true, true, true, false, false, false, false, false, false]) (l2 := #[true, true, true, true, true, true, false, false, false, false, true, false, false]) 6 10 rfl rfl (by kernel_rfl) rfl rfl ?_ ?_
    · skip
      refine st_call (xs := [(Operand.tmp 89), (Operand.tmp 90), (Operand.const (Value.int IntKind.i64 2)), (Operand.tmp 94)]) S (enters_of Try.func9 (by decide) rfl) rfl rfl rfl ((by first | exact append_any (A := _ :: _ :: rs.map RB.ent) 1 (JNew.nx p new) 2 x bs hE M (RdH.arg hxb) N.up (by omega) (by omega) (by omega) (fun k => by have := N.small k; omega) | exact append_any (A := _ :: _ :: _ :: rs.map RB.ent) 1 (JNew.nx p new) 2 x bs hE M (RdH.arg hxb) N.up (by omega) (by omega) (by omega) (fun k => by have := N.small k; omega))) ?_
      rintro _ w18 ⟨n', er, S1, rfl, hP, E1, hE1, M1⟩; refine ⟨_, rfl, ?_⟩; clear S M a; intro a S; have M := M1; clear M1
      simp only [List.cons_append, List.nil_append] at M
      refine wpList_nil ?_; refine then_normal ?_; refine ⟨fun h => absurd h (by decide), ?_⟩
      refine k_pure (listed' := #[true, true, true, true, true, true, true, true, false, false, false, false, false]) 7 S rfl rfl rfl rfl (by kernel_rfl) rfl (fun _ d _ _ _ h => by cases d <;> exact h) (fun w => y_move S rfl) ?_; clear S a; intro a S
      refine k_pure (listed' := #[true, true, true, true, true, true, true, true, true, false, false, false, false]) 8 S rfl rfl rfl rfl (by kernel_rfl) rfl (fun _ d _ _ _ h => by cases d <;> exact h) (fun w => y_extract S rfl rfl) ?_; clear S a; intro a S
      refine k_pure (listed' := #[true, true, true, true, true, true, true, true, true, true, false, false, false]) 9 S rfl rfl rfl rfl (by kernel_rfl) rfl (fun _ d _ _ _ h => by cases d <;> exact h) (fun w => y_extract S rfl rfl) ?_; clear S a; intro a S
      refine k_one (listed' := #[true, true, true, true, true, true, true, true, true, true, true, false, false]) 10 rfl (by kernel_rfl) rfl ?_
      refine st_alloc S M rfl rfl #[.int .i64 0, .int .i64 0] (by kernel_rfl) ?_; clear S M a; intro a w19 bT S M hB
      refine wpList_nil ?_; refine then_normal ?_; refine ⟨fun _ => hB, ?_⟩
      refine k_one (listed' := #[true, true, true, true, true, true, true, true, true, true, true, true, false]) 11 rfl (by kernel_rfl) rfl ?_
      refine st_store (sz := 2) (us := [_, _]) S M 0 rfl (by kernel_rfl) rfl rfl rfl rfl rfl rfl (by first | decide | (simp; done) | (simp; omega)) ?_; clear M; intro w20 M
      simp only [putL, List.set_cons_zero, List.set_cons_succ, Nat.reduceAdd] at M
      refine wpList_nil ?_; refine then_normal ?_; refine ⟨fun h => absurd h (by decide), ?_⟩
      refine k_pure (listed' := #[true, true, true, true, true, true, true, true, true, true, true, true, true]) 12 S rfl rfl rfl rfl (by kernel_rfl) rfl (fun _ d _ _ _ h => by cases d <;> exact h) (fun w => y_assign S rfl) ?_; clear S a; intro a S
      refine k_end (by kernel_rfl) ?_
      refine then_normal ?_
      exact ⟨_, _, _, _, _, hP, hE1, S.sub _ rfl, M⟩
    · skip
      refine st_alloc S M rfl rfl #[.int .i64 0, .int .i64 0] (by kernel_rfl) ?_; clear S M a; intro a w21 bT S M hB
      refine wpList_nil ?_; refine then_normal ?_; refine ⟨fun _ => hB, ?_⟩
      refine k_one (listed' := #[true, true, true, true, true, true, true, false, false, false, true, false, false]) 6 rfl (by kernel_rfl) rfl ?_
      refine st_call (xs := [(Operand.tmp 89), (Operand.tmp 90), (Operand.const (Value.int IntKind.i64 2)), (Operand.tmp 94)]) S (enters_of Try.func9 (by decide) rfl) rfl rfl rfl ((by first | exact append_any (A := _ :: _ :: rs.map RB.ent) 1 (JNew.nx p new) 2 x bs hE M (RdH.arg hxb) N.up (by omega) (by omega) (by omega) (fun k => by have := N.small k; omega) | exact append_any (A := _ :: _ :: _ :: rs.map RB.ent) 1 (JNew.nx p new) 2 x bs hE M (RdH.arg hxb) N.up (by omega) (by omega) (by omega) (fun k => by have := N.small k; omega))) ?_
      rintro _ w22 ⟨n', er, S1, rfl, hP, E1, hE1, M1⟩; refine ⟨_, rfl, ?_⟩; clear S M a; intro a S; have M := M1; clear M1
      simp only [List.cons_append, List.nil_append] at M
      refine wpList_nil ?_; refine then_normal ?_; refine ⟨fun h => absurd h (by decide), ?_⟩
      refine k_pure (listed' := #[true, true, true, true, true, true, true, true, false, false, true, false, false]) 7 S rfl rfl rfl rfl (by kernel_rfl) rfl (fun _ d _ _ _ h => by cases d <;> exact h) (fun w => y_move S rfl) ?_; clear S a; intro a S
      refine k_pure (listed' := #[true, true, true, true, true, true, true, true, true, false, true, false, false]) 8 S rfl rfl rfl rfl (by kernel_rfl) rfl (fun _ d _ _ _ h => by cases d <;> exact h) (fun w => y_extract S rfl rfl) ?_; clear S a; intro a S
      refine k_pure (listed' := #[true, true, true, true, true, true, true, true, true, true, true, false, false]) 9 S rfl rfl rfl rfl (by kernel_rfl) rfl (fun _ d _ _ _ h => by cases d <;> exact h) (fun w => y_extract S rfl rfl) ?_; clear S a; intro a S
      refine k_one (listed' := #[true, true, true, true, true, true, true, true, true, true, true, true, false]) 11 rfl (by kernel_rfl) rfl ?_
      refine st_store (sz := 2) (us := [_, _]) S M 0 rfl (by kernel_rfl) rfl rfl rfl rfl rfl rfl (by first | decide | (simp; done) | (simp; omega)) ?_; clear M; intro w23 M
      simp only [putL, List.set_cons_zero, List.set_cons_succ, Nat.reduceAdd] at M
      refine wpList_nil ?_; refine then_normal ?_; refine ⟨fun h => absurd h (by decide), ?_⟩
      refine k_pure (listed' := #[true, true, true, true, true, true, true, true, true, true, true, true, true]) 12 S rfl rfl rfl rfl (by kernel_rfl) rfl (fun _ d _ _ _ h => by cases d <;> exact h) (fun w => y_assign S rfl) ?_; clear S a; intro a S
      refine k_end (by kernel_rfl) ?_
      refine then_normal ?_
      exact ⟨_, _, _, _, _, hP, hE1, S.sub _ rfl, M⟩
  clear S a M; intro a wc
  rintro ⟨n', er, S1, E1, bT, hP, hE1, S, M⟩
  have hJ := N.app hP
  refine wp_seq ?_
  refine nxD ?_
  refine st_go [1, 1] S rfl (by kernel_rfl) ?_; clear S a; intro a S
  refine nxC ?_
  refine st_fi (t := 99) S rfl ?_ ?_
  · clear S; intro h99 S
    refine st_condF S rfl ?_
    refine wp_skip ?_
    refine nxF ?_
    refine st_y S rfl rfl rfl (y_loadAgg (cs := [_, _]) S (by kernel_rfl) rfl rfl (M.cellsAt (k := 2) 0 rfl rfl)) ?_; clear S a; intro a S
    refine st_store (sz := 2) (us := [_, _]) S M 2 rfl (by kernel_rfl) rfl rfl rfl rfl rfl rfl (by first | decide | (simp; done) | (simp; omega)) ?_; clear M; intro w27 M
    simp only [putL, List.set_cons_zero, List.set_cons_succ, Nat.reduceAdd] at M
    refine wpList_nil ?_
    refine block_normal ?_
    refine nxF ?_
    refine st_go [1] S rfl (by kernel_rfl) ?_; clear S a; intro a S
    (first | refine st_y S rfl rfl rfl (y_addN S rfl rfl (by omega)) ?_ | refine st_y S rfl rfl rfl (y_int S rfl rfl rfl) ?_); clear S a; intro a S
    refine st_go [1] S rfl (by kernel_rfl) ?_; clear S a; intro a S
    refine nxC ?_
    skip
    replace M := M.drop 0
    simp only [List.eraseIdx_cons_succ, List.eraseIdx_cons_zero] at M
    replace M := M.front 1 rfl
    simp only [List.eraseIdx_cons_succ, List.eraseIdx_cons_zero] at M
    replace M := M.front 1 rfl
    simp only [List.eraseIdx_cons_succ, List.eraseIdx_cons_zero] at M
    first
      | (obtain ⟨-, J1, rfl⟩ : er = 0 ∧ JNew (fun j => secAt (S0.again plan) 1 j) S1 p (new ++ [bs]) ∧ n' = JNew.nx p (new ++ [bs]) := by
           rcases hJ with h | ⟨h, -⟩
           · exact h
           · exact absurd h99 h
         have hpl : rs.length + (new ++ [bs]).length = rs.length + new.length + 1 := by simp; omega
         refine ⟨ys.length - (i + 1), by omega, i + 1, new ++ [bs], pvs ++ [_], S1, E1, aP, cP, ?l1, ?l2, by omega, rfl, by simp; omega, J1, hPv.snoc hxb, hE1, by rw [hpl]; exact S.sub _ rfl, ?MM⟩
         case MM =>
           rw [hpl, ← List.append_assoc]
           exact M)
      | (obtain ⟨-, rfl, rfl⟩ : er ≠ 0 ∧ S1 = S2 ∧ n' = JNew.nx p new := by
           rcases hJ with ⟨h, -⟩ | h
           · exact absurd h h99
           · exact h
         exact ⟨ys.length - (i + 1), by omega, i + 1, new, pvs, S1, E1, na, nc, _, _, by omega, rfl, by omega, N, hPv, hE1, S.sub _ rfl, M⟩)
  clear S; intro h99 S
  refine st_condT S rfl ?_
  refine wp_region_lit ?_
  refine st_go [1, 1, 1] S rfl (by kernel_rfl) ?_; clear S a; intro a S
  refine st_y S rfl rfl rfl (y_indexR (e := 32) (sz := 1) S (by kernel_rfl) rfl (M.arg hu1) rfl (by first | omega | (simp; done) | (simp; omega))) ?_; clear S a; intro a S
  try simp only [Int.toNat_natCast, Nat.mul_one, Nat.zero_add] at S
  refine st_y S rfl rfl rfl (y_load S (by kernel_rfl) rfl ((M.arg hu1).at_.one i hx)) ?_; clear S a; intro a S
  obtain ⟨xa, xc, rfl, -, -⟩ := hxb.form
  refine st_lit (ps := [(0, (Operand.tmp 104))]) (e := 32) (sz := 1) (zl := [.slice none 0 0]) (cs := [_]) S M rfl rfl (by kernel_rfl) rfl (rfl) ?_; clear S M a; intro a w24 bZ2 S M hB
  refine st_append (e := 32) (sz := 1) (by_ := 24) (zc := [.slice none 0 0]) S M 2 rfl rfl (by kernel_rfl) rfl (by decide) rfl rfl rfl (show Rd _ _ _ 1 _ 1 [_] from M.sliceAt 0 rfl (M.cellsAt (k := 1) 0 rfl rfl) rfl (Nat.le_refl _) (by unfold maxLen; omega)) (rfl) (by omega) (by unfold maxLen; omega) ?_; clear S M a; intro a w25 vA loA hiA S M
  obtain ⟨aP, cP, rfl, -, -⟩ := (M.readAll 0 rfl (by unfold maxLen; omega)).form
  replace M := M.drop 1
  simp only [List.eraseIdx_cons_succ, List.eraseIdx_cons_zero] at M
  refine st_y S rfl rfl rfl (y_assign S rfl) ?_; clear S a; intro a S
  refine nxB ?_
  refine st_y S rfl rfl rfl (y_loadAgg (cs := [_, _]) S (by kernel_rfl) rfl rfl (M.cellsAt (k := 2) 1 rfl rfl)) ?_; clear S a; intro a S
  refine st_store (sz := 2) (us := [_, _]) S M 2 rfl (by kernel_rfl) rfl rfl rfl rfl rfl rfl (by first | decide | (simp; done) | (simp; omega)) ?_; clear M; intro w26 M
  simp only [putL, List.set_cons_zero, List.set_cons_succ, Nat.reduceAdd] at M
  refine wpList_nil ?_
  refine block_normal ?_
  refine nxF ?_
  refine st_go [1] S rfl (by kernel_rfl) ?_; clear S a; intro a S
  (first | refine st_y S rfl rfl rfl (y_addN S rfl rfl (by omega)) ?_ | refine st_y S rfl rfl rfl (y_int S rfl rfl rfl) ?_); clear S a; intro a S
  refine st_go [1] S rfl (by kernel_rfl) ?_; clear S a; intro a S
  refine nxC ?_
  skip
  replace M := M.drop 1
  simp only [List.eraseIdx_cons_succ, List.eraseIdx_cons_zero] at M
  replace M := M.front 1 rfl
  simp only [List.eraseIdx_cons_succ, List.eraseIdx_cons_zero] at M
  replace M := M.front 1 rfl
  simp only [List.eraseIdx_cons_succ, List.eraseIdx_cons_zero] at M
  first
    | (obtain ⟨-, J1, rfl⟩ : er = 0 ∧ JNew (fun j => secAt (S0.again plan) 1 j) S1 p (new ++ [bs]) ∧ n' = JNew.nx p (new ++ [bs]) := by
         rcases hJ with h | ⟨h, -⟩
         · exact h
         · exact absurd h99 h
       have hpl : rs.length + (new ++ [bs]).length = rs.length + new.length + 1 := by simp; omega
       refine ⟨ys.length - (i + 1), by omega, i + 1, new ++ [bs], pvs ++ [_], S1, E1, aP, cP, ?l1, ?l2, by omega, rfl, by simp; omega, J1, hPv.snoc hxb, hE1, by rw [hpl]; exact S.sub _ rfl, ?MM⟩
       case MM =>
         rw [hpl, ← List.append_assoc]
         exact M)
    | (obtain ⟨-, rfl, rfl⟩ : er ≠ 0 ∧ S1 = S2 ∧ n' = JNew.nx p new := by
         rcases hJ with ⟨h, -⟩ | h
         · exact absurd h h99
         · exact h
       exact ⟨ys.length - (i + 1), by omega, i + 1, new, pvs, S1, E1, na, nc, _, _, by omega, rfl, by omega, N, hPv, hE1, S.sub _ rfl, M⟩)

end Go.Proofs.Ytafejnbfgkkjkaa
