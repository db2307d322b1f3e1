/-
  Package model: what is touched.
-/
import Derived.Test.YtgngbdhdnnkncaaNa
import Derived.Test.YtgngbdhdnnkncaaMq
import Derived.Test.YtgngbdhdnnkncaaIc
import Derived.Test.YtgngbdhdnnkncaaSort
namespace Go.Proofs.Ytgngbdhdnnkncaa
open Go.RowKit Go.Sort

theorem nodup_len {α : Type} : ∀ {a b : List α}, a.Nodup → (∀ x ∈ a, x ∈ b) → a.length ≤ b.length
  | [], _, _, _ => Nat.zero_le _
  | x :: a, b, hn, hs => by
    obtain ⟨b1, b2, rfl⟩ := List.append_of_mem (hs x (by simp))
    rw [List.nodup_cons] at hn
    have := nodup_len (a := a) (b := b1 ++ b2) hn.2 fun y hy => by
      rcases List.mem_append.1 (hs y (by simp [hy])) with h | h
      · exact List.mem_append_left _ h
      · rcases List.mem_cons.1 h with h | h
        · exact absurd (h ▸ hy) hn.1
        · exact List.mem_append_right _ h
    simp only [List.length_append, List.length_cons] at this ⊢
    omega
theorem zero_int (w : World) : (zeroValue 3).run Try.prog w = .ok (.int .i64 0) w := by
  obtain ⟨i, hi, hz⟩ : ∃ i, Try.prog.info? 3 = some i ∧ i.zero = some (.int .i64 0) := by
    refine ⟨_, rfl, ?_⟩
    kernel_rfl
  simp [zeroValue, typeInfo, hi, hz, go_sem]
theorem keyI : KeyT Try.prog 3 (fun z : Int => Value.int .i64 z) := key_int Try.underlying3
set_option maxHeartbeats 1000000 in
theorem rising_any {wc w : World} {H : List Ent} {bm b c : Nat} {l : Mes Int} (G : Good (fun z : Int => Value.int .i64 z) l c) (M : Mem wc w (.blk bm #[.map (some b)] 56 :: mapX b l c :: H)) (hl : l.length ≤ 1000000) :
    Calls Try.prog 20 #[.pointer (some ⟨bm, 0, none⟩)] w fun e w' => ∃ va vc lo hi zs, e = .returned (.slice va zs.length vc) ∧ zs.Perm (l.map (·.1)) ∧ Mem wc w' (rowE lo hi 3 1 (.slice va zs.length vc) zs.length (icells zs) :: .blk bm #[.map (some b)] 56 :: mapX b ([] : Mes Int) c :: H) := by
  refine calls_enter Try.func20 rfl 18 rfl rfl ?_; intro a S
  refine wp_seq ?_
  skip
  refine wp_region_lit ?_
  refine st_go [1] S rfl (by kernel_rfl) ?_; clear S a; intro a S
  refine nxA ?_
  refine st_go [1] S rfl (by kernel_rfl) ?_; clear S a; intro a S
  refine nxC ?_
  refine wp_seq ?_
  refine nxD ?_
  refine st_run [1] S M rfl (by kernel_rfl) ?_; clear S a; intro a S
  refine st_rangeM (pos := 1) S M Try.underlying56 rfl rfl rfl rfl ?_; clear S M a; intro a w1 bI S M hB
  refine nxC ?_
  refine wp_block ?_
  refine wp_loop_g (fun m a w' => ∃ (vs : Mes Int) (va : Option Addr) (vc lo hi : Nat), (∀ p ∈ vs, p ∈ l) ∧ vs.Nodup ∧ m = l.length - vs.length ∧ Sees 18 a [(0, .pointer (some ⟨bm, 0, none⟩)), (2, .slice va vs.length vc), (5, .pointer (some ⟨bI, 0, none⟩))] ∧ Mem wc w' (rowE lo hi 3 1 (.slice va vs.length vc) vs.length (icells (vs.map (·.1))) :: itX bI b c (bornsM vs) c :: .blk bm #[.map (some b)] 56 :: mapX b l c :: H)) (l.length) ?_ ?_
  · skip
    replace M := M.rowNil 3 1
    exact ⟨[], none, 0, _, _, fun p h => (by cases h), .nil, rfl, S.sub _ rfl, M⟩
  clear S M a; intro m a wl
  rintro ⟨vs, va, vc, lo, hi, hvs, hnd, rfl, S, M⟩
  have hvl : vs.length ≤ l.length := nodup_len hnd hvs
  refine nxD ?_
  refine st_nextM (pos := 1) (pm := 3) S M (G) (hvs) rfl rfl rfl rfl rfl ?_ ?_
  · intro hAll; clear S a; intro a S
    refine st_go [1] S rfl (by kernel_rfl) ?_; clear S a; intro a S
    refine nxC ?_
    refine wp_seq ?_
    refine st_condF S rfl ?_
    refine wp_exit ?_
    refine then_exit ?_
    refine then_exit ?_
    refine block_hit ?_
    refine nxE ?_
    rw [show vs.length = (vs.map (·.1)).length from (List.length_map ..).symm] at S M
    refine st_y S rfl rfl rfl (y_move S rfl) ?_; clear S a; intro a S
    refine st_call (xs := [(Operand.tmp 14)]) S (enters_of Try.func21 (by decide) rfl) rfl rfl rfl (sortI_any M (by rw [List.length_map]; omega)) ?_
    rintro _ w2 ⟨rfl, zs', lo', hi', hperm, hlen, M1⟩; refine ⟨_, rfl, ?_⟩; clear S a; intro a S; replace M := M1; clear M1; rw [← hlen] at S
    refine nxA ?_
    refine st_run [3] S M rfl (by kernel_rfl) ?_; clear S a; intro a S
    refine st_clearM (pos := 3) S M Try.underlying56 rfl rfl rfl ?_; clear M; intro w3 M
    simp only [List.set_cons_zero, List.set_cons_succ] at M
    refine nxA ?_
    refine st_go [1, 1] S rfl (by kernel_rfl) ?_; clear S a; intro a S
    refine nxC ?_
    refine wp_ret ?_
    refine end_one S rfl (res_tmp rfl) ?_
    skip
    replace M := M.drop 1
    simp only [List.eraseIdx_cons_succ, List.eraseIdx_cons_zero] at M
    refine ⟨_, _, _, _, zs', rfl, hperm.trans ?_, M⟩
    refine (List.Perm.map (·.1) ((List.perm_ext_iff_of_nodup hnd (List.Pairwise.of_map (·.1) (fun a b h e => h (by rw [e])) G.nodup)).2 fun p => ⟨hvs p, hAll p⟩))
  intro q hq hnv; clear S M a; intro a w4 S M
  simp only [List.set_cons_zero, List.set_cons_succ] at M
  refine st_go [1] S rfl (by kernel_rfl) ?_; clear S a; intro a S
  refine nxC ?_
  refine wp_seq ?_
  refine st_condT S rfl ?_
  refine wp_skip ?_
  refine then_normal ?_
  refine wp_block ?_
  refine nxD ?_
  refine st_y S rfl rfl rfl (y_entryM (pos := 1) (pm := 3) S M (G) hq rfl rfl rfl) ?_; clear S a; intro a S
  refine st_go [1, 1] S rfl (by kernel_rfl) ?_; clear S a; intro a S
  refine nxB ?_
  refine st_go [1, 1] S rfl (by kernel_rfl) ?_; clear S a; intro a S
  refine st_lit (ps := [(0, (Operand.tmp 11))]) (e := 3) (sz := 1) (zl := [.int .i64 0]) (cs := [_]) S M rfl rfl (by kernel_rfl) rfl (rfl) ?_; clear S M a; intro a w5 bZ S M hB
  refine st_append (e := 3) (sz := 1) (by_ := 8) (zc := [.int .i64 0]) S M 1 rfl rfl (by kernel_rfl) rfl (by decide) rfl rfl rfl (show Rd _ _ _ 1 _ 1 [.int .i64 q.1] from M.sliceAt 0 rfl (M.cellsAt (k := 1) 0 rfl rfl) rfl (Nat.le_refl _) (by unfold maxLen; omega)) (rfl) (by omega) (by unfold maxLen; omega) ?_; clear S M a; intro a w6 vA loA hiA S M
  obtain ⟨aA, cA, rfl, -, -⟩ := (M.readAll 0 rfl (by unfold maxLen; omega)).form
  refine st_y S rfl rfl rfl (y_assign S rfl) ?_; clear S a; intro a S
  refine wpList_nil ?_
  refine block_normal ?_
  refine then_normal ?_
  skip
  replace M := M.drop 1
  simp only [List.eraseIdx_cons_succ, List.eraseIdx_cons_zero] at M
  have hnd2 : (vs ++ [q]).Nodup := by
    rw [List.nodup_append]
    exact ⟨hnd, by simp, fun x hx y hy e => hnv (by simp at hy; rw [← hy, ← e]; exact hx)⟩
  have hvs2 : ∀ p ∈ vs ++ [q], p ∈ l := fun p hp => by
    rcases List.mem_append.1 hp with h | h
    · exact hvs p h
    · obtain rfl := List.mem_singleton.1 h; exact hq
  have hlt : (vs ++ [q]).length ≤ l.length := nodup_len hnd2 hvs2
  rw [List.length_append] at hlt
  refine ⟨l.length - (vs ++ [q]).length, by rw [List.length_append]; simp at hlt ⊢; omega, vs ++ [q], aA, cA, loA, hiA, hvs2, hnd2, rfl, ?_, ?_⟩
  · rw [List.length_append]; exact S.sub _ rfl
  · rw [List.length_append, List.map_append, show icells (vs.map (·.1) ++ [q].map (·.1)) = icells (vs.map (·.1)) ++ [.int .i64 q.1] by simp [icells]]; exact M

end Go.Proofs.Ytgngbdhdnnkncaa
