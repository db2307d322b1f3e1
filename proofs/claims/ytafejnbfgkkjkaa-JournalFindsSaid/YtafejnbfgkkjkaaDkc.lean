/-
  Package disk: New, Write.
-/
import Derived.Test.YtafejnbfgkkjkaaDkb
import Derived.Test.YtafejnbfgkkjkaaRdh
namespace Go.Proofs.Ytafejnbfgkkjkaa
open Go.RowKit Go.Sort

def pad64 (bs : List UInt8) : List UInt8 := bs ++ List.replicate (64 - bs.length) 0
theorem pad64_len {bs : List UInt8} (h : bs.length ≤ 64) : (pad64 bs).length = 64 := by unfold pad64; rw [List.length_append, List.length_replicate]; omega
theorem pad64_eq {bs : List UInt8} (h : bs.length = 64) : pad64 bs = bs := by unfold pad64; rw [h]; simp
theorem pad64_cells (bs : List UInt8) : (List.replicate 64 (Value.int .u8 0)).take 0 ++ bcells bs ++ (List.replicate 64 (Value.int .u8 0)).drop (0 + bs.length) = bcells (pad64 bs) := by
  rw [List.take_zero, List.nil_append, Nat.zero_add, List.drop_replicate, pad64, bcells_append]
  congr 1
  simp [bcells]
theorem made64 : madeL [Value.int .u8 0] 64 = List.replicate 64 (Value.int .u8 0) := by kernel_rfl
set_option maxHeartbeats 1000000 in
theorem write_any {wc w : World} {A E : List Ent} {b : Nat} {S0 : DS} {k : Int} {v : Value} {bs : List UInt8} (hE : DkE b S0 E) (M : Mem wc w (A ++ E)) (hv : RdH wc A v bs) (hup : S0.down = false) (hk : 0 ≤ k ∧ k < 34) (hb : bs.length ≤ 64) (hw : (S0.cache k).length ≤ 1000000) :
    Calls Try.prog 37 #[.pointer (some ⟨b, 0, none⟩), .int .i64 k, v] w fun e w' => e = .returned (.int .i64 0) ∧ ∃ E', DkE b (S0.write k (pad64 bs)) E' ∧ Mem wc w' (A ++ E') := by
  obtain ⟨D, rfl, O, rfl, rfl⟩ := hE
  have hA : ∀ W, Mem wc W (D.ents ++ A) → Mem wc W A := fun W M => M.sub (List.sublist_append_right _ _)
  replace M := M.perm List.perm_append_comm
  have hM0 := M
  replace M : Mem wc w (.blk D.b (dcells D.dur D.m D.down).toArray 50 :: mapX D.m D.ml D.cl :: (secsE D.secs ++ A)) := M
  have hd : D.down = false := hup
  have hpl := pad64_len hb
  obtain ⟨va, vc, rfl, hvc, -⟩ := (hv _ (hA _ hM0)).form
  refine calls_enter Try.func37 rfl 49 rfl rfl ?_; intro a S
  refine wp_seq ?_
  skip
  refine wp_region_lit ?_
  refine st_go [1] S rfl (by kernel_rfl) ?_; clear S a; intro a S
  refine nxC ?_
  refine wp_seq ?_
  refine nxD ?_
  refine st_go [1] S rfl (by kernel_rfl) ?_; clear S a; intro a S
  refine st_y S rfl rfl rfl (y_eqlPS (by kernel_rfl) S rfl) ?_; clear S a; intro a S
  refine nxC ?_
  refine st_condF S rfl ?_
  refine wp_skip ?_
  refine then_normal ?_
  refine wp_seq ?_
  refine nxD ?_
  refine st_go [1, 1, 2178] S rfl (by kernel_rfl) ?_; clear S a; intro a S
  refine st_y S rfl rfl rfl (y_load S (by kernel_rfl) rfl (M.cell 0 rfl ((dcells_down O.dur _ _).trans (by rw [hd])))) ?_; clear S a; intro a S
  refine nxC ?_
  refine st_if (t := 13) S rfl ?_ ?_
  · clear S; intro h13 S
    cases h13
  clear S; intro h13 S
  refine st_condF S rfl ?_
  refine wp_skip ?_
  refine then_normal ?_
  refine wp_seq ?_
  refine nxD ?_
  refine st_go [1] S rfl (by kernel_rfl) ?_; clear S a; intro a S
  refine st_call (xs := [(Operand.tmp 14)]) S (enters_of Try.func43 (by decide) rfl) rfl rfl rfl (is_any k _) ?_
  rintro _ w1 ⟨rfl, hK⟩; refine ⟨_, rfl, ?_⟩; clear S a; intro a S; replace M := M.grow hK
  refine st_go [1, 1] S rfl (by kernel_rfl) ?_; clear S a; intro a S
  refine st_if (t := 17) S rfl ?_ ?_
  · clear S; intro h17 S
    exfalso; simp at h17; omega
  clear S; intro h17 S
  refine st_go [1] S rfl (by kernel_rfl) ?_; clear S a; intro a S
  refine st_y S rfl rfl rfl (y_lenS (E := 5) S rfl (by kernel_rfl)) ?_; clear S a; intro a S
  refine st_go [1, 1] S rfl (by kernel_rfl) ?_; clear S a; intro a S
  refine nxC ?_
  refine st_if (t := 21) S rfl ?_ ?_
  · clear S; intro h21 S
    exfalso; omega
  clear S; intro h21 S
  refine st_condF S rfl ?_
  refine wp_skip ?_
  refine then_normal ?_
  refine wp_seq ?_
  refine nxD ?_
  refine st_go [1, 1, 2177] S rfl (by kernel_rfl) ?_; clear S a; intro a S
  refine st_y S rfl rfl rfl (y_load S (by kernel_rfl) rfl (M.cell 0 rfl (dcells_map O.dur _ _))) ?_; clear S a; intro a S
  refine st_y S rfl rfl rfl (y_eqlMS (by kernel_rfl) S rfl) ?_; clear S a; intro a S
  replace S := S.sub [(0, _), (1, _), (2, _), (6, _), (9, _), (13, _), (21, _), (26, _)] rfl
  refine nxC ?_
  refine st_condF S rfl ?_
  refine wp_skip ?_
  refine nxE ?_
  refine st_make (e := 5) (sz := 1) (by_ := 1) (zc := [.int .u8 0]) S M rfl rfl (by kernel_rfl) rfl rfl (by omega) (by omega) (by omega) (by omega) ?_; clear S M a; intro a w2 bSE S M hB
  try simp only [Int.toNat_natCast, Int.reduceToNat, Nat.reduceMul] at S M
  refine st_go [1] S rfl (by kernel_rfl) ?_; clear S a; intro a S
  refine nxA ?_
  refine st_go [1, 1] S rfl (by kernel_rfl) ?_; clear S a; intro a S
  refine st_copy (e := 5) (us := bcells bs) S M 0 rfl rfl (by kernel_rfl) rfl rfl rfl (hv _ (M.sub (.cons _ (.cons _ (.cons _ (List.sublist_append_right _ _)))))) (List.take_of_length_le (by simp [bcells]; omega)) (allOne_bcells _) (by rw [madeL_length, bcells_length]; show 0 + bs.length ≤ 64; omega) ?_; clear S M a; intro a w3 S M
  simp only [List.set_cons_zero, List.set_cons_succ] at M
  refine nxC ?_
  refine wp_seq ?_
  have M3 := M
  rw [bcells_length] at M3
  replace M : Mem wc w3 (.blk bSE (bcells (pad64 bs)).toArray 5 :: .blk D.b (dcells D.dur D.m D.down).toArray 50 :: mapX D.m D.ml D.cl :: (secsE D.secs ++ A)) := by
    rw [← pad64_cells, ← made64]; exact M3
  clear M3
  obtain ⟨r, hr⟩ : ∃ r : RB, r = ⟨bSE, bSE + 1, some ⟨bSE, 0, none⟩, 64, pad64 bs⟩ := ⟨_, rfl⟩
  have hrv : r.val = .slice (some ⟨bSE, 0, none⟩) 64 64 := by rw [hr]; unfold RB.val; simp only [hpl]
  have hrb : r.bs = pad64 bs := by rw [hr]
  have M4 := M.toRow (sz := 1) (m := (pad64 bs).length) (cap := 64) (xs := bcells (pad64 bs)) 0 rfl (by rw [bcells_length, Nat.mul_one]) (by omega) (by decide) (by rw [List.size_toArray, bcells_length, hpl]) (by rw [List.toList_toArray, Nat.mul_one]; exact List.take_of_length_le (by rw [bcells_length]; omega))
  replace M : Mem wc w3 (r.ent :: (D.ents ++ A)) := by rw [hr]; exact M4
  clear M4
  obtain ⟨P, Q, s, hkey, hsec, hnd, hval, hca, h64, M5⟩ := Dk.open O k hk (A := r.ent :: A) (M.perm List.perm_middle.symm)
  clear M; have M := M5; clear M5
  have hwl : s.ws.length ≤ 1000000 := by
    have e : (cacheOf D.secs k).length = s.ws.length := by rw [hca, List.length_map]
    rw [← e]; exact hw
  refine wp_regionKC (C := fun W => Blk W D.b (dcells D.dur D.m D.down).toArray 50) [13, 14] #[false, false, false, false, false, false, false, false, false, false, false, false, false, false, false] rfl M (by kernel_rfl) ?_; clear M; intro w4 M; have hC := M.blk 0 rfl
  refine kc_readC (listed' := #[true, false, false, false, false, false, false, false, false, false, false, false, false, false, false]) 0 S rfl rfl rfl rfl (by kernel_rfl) rfl (fun _ d _ _ _ h => by cases d <;> exact h) hC (fun w _ => y_move S rfl) ?_; clear S a; intro a S
  refine kc_readC (listed' := #[true, true, false, false, false, false, false, false, false, false, false, false, false, false, false]) 1 S rfl rfl rfl rfl (by kernel_rfl) rfl (fun _ d _ _ _ h => by cases d <;> exact h) hC (fun w _ => y_nilCheck S rfl) ?_; clear S a; intro a S
  refine kc_readC (listed' := #[true, true, true, false, false, false, false, false, false, false, false, false, false, false, false]) 2 S rfl rfl rfl rfl (by kernel_rfl) rfl (fun _ d _ _ _ h => by cases d <;> exact h) hC (fun w _ => y_fieldAddr (k := 2176) S (by kernel_rfl) rfl) ?_; clear S a; intro a S
  refine kc_readC (listed' := #[true, true, true, true, false, false, false, false, false, false, false, false, false, false, false]) 3 S rfl rfl rfl rfl (by kernel_rfl) rfl (fun _ d _ _ _ h => by cases d <;> exact h) hC (fun w hC => y_load S (by kernel_rfl) rfl ((hC.cells 2176).trans (dcells_map O.dur _ _))) ?_; clear S a; intro a S
  refine kc_readC (listed' := #[true, true, true, true, true, false, false, false, false, false, false, false, false, false, false]) 4 S rfl rfl rfl rfl (by kernel_rfl) rfl (fun _ d _ _ _ h => by cases d <;> exact h) hC (fun w _ => y_move S rfl) ?_; clear S a; intro a S
  refine kc_readC (listed' := #[true, true, true, true, true, true, false, false, false, false, false, false, false, false, false]) 5 S rfl rfl rfl rfl (by kernel_rfl) rfl (fun _ d _ _ _ h => by cases d <;> exact h) hC (fun w _ => y_move S rfl) ?_; clear S a; intro a S
  refine kc_readC (listed' := #[true, true, true, true, true, true, true, false, false, false, false, false, false, false, false]) 6 S rfl rfl rfl rfl (by kernel_rfl) rfl (fun _ d _ _ _ h => by cases d <;> exact h) hC (fun w _ => y_nilCheck S rfl) ?_; clear S a; intro a S
  refine kc_readC (listed' := #[true, true, true, true, true, true, true, true, false, false, false, false, false, false, false]) 7 S rfl rfl rfl rfl (by kernel_rfl) rfl (fun _ d _ _ _ h => by cases d <;> exact h) hC (fun w _ => y_fieldAddr (k := 2176) S (by kernel_rfl) rfl) ?_; clear S a; intro a S
  refine kc_readC (listed' := #[true, true, true, true, true, true, true, true, true, false, false, false, false, false, false]) 8 S rfl rfl rfl rfl (by kernel_rfl) rfl (fun _ d _ _ _ h => by cases d <;> exact h) hC (fun w hC => y_load S (by kernel_rfl) rfl ((hC.cells 2176).trans (dcells_map O.dur _ _))) ?_; clear S a; intro a S
  refine kc_readC (listed' := #[true, true, true, true, true, true, true, true, true, true, false, false, false, false, false]) 9 S rfl rfl rfl rfl (by kernel_rfl) rfl (fun _ d _ _ _ h => by cases d <;> exact h) hC (fun w _ => y_move S rfl) ?_; clear S a; intro a S
  refine kc_read (listed' := #[true, true, true, true, true, true, true, true, true, true, true, false, false, false, false]) 10 S rfl rfl rfl rfl (by kernel_rfl) rfl (fun _ d _ _ _ h => by cases d <;> exact h) hC (fun w hW => have M := M.grow hW; y_lookupM (pos := 1) S M (keyJ) (O.good) Try.underlying46 (zero_sl) rfl rfl rfl) ?_; clear S a; intro a S
  simp only [Bool.false_eq_true, if_false, hval] at S
  refine kc_readC (listed' := #[true, true, true, true, true, true, true, true, true, true, true, true, false, false, false]) 11 S rfl rfl rfl rfl (by kernel_rfl) rfl (fun _ d _ _ _ h => by cases d <;> exact h) hC (fun w _ => y_move S rfl) ?_; clear S a; intro a S
  refine kc_one (listed' := #[true, true, true, true, true, true, true, true, true, true, true, true, true, false, false]) 12 rfl (by kernel_rfl) rfl ?_
  refine st_lit (ps := [(0, (Operand.tmp 46))]) (e := 32) (sz := 1) (zl := [.slice none 0 0]) (cs := [_]) S M rfl rfl (by kernel_rfl) rfl (rfl) ?_; clear S M a; intro a w5 bZ S M hB
  replace hC := M.blk 1 rfl
  refine wpList_nil ?_; refine then_normal ?_; refine ⟨fun _ => hB, hC, ?_⟩
  refine kc_one (listed' := #[true, true, true, true, true, true, true, true, true, true, true, true, true, true, false]) 13 rfl (by kernel_rfl) rfl ?_
  refine st_append (e := 32) (sz := 1) (by_ := 24) (zc := [.slice none 0 0]) S M 3 rfl rfl (by kernel_rfl) rfl (by decide) rfl rfl rfl (show Rd _ _ _ 1 _ 1 [Value.slice (some ⟨bSE, 0, none⟩) 64 64] from M.sliceAt 0 rfl (M.cellsAt (k := 1) 0 rfl rfl) rfl (Nat.le_refl _) (by unfold maxLen; omega)) (rfl) (by omega) (by unfold maxLen; omega) ?_; clear S M a; intro a w6 vA loA hiA S M
  replace hC := M.blk 2 rfl
  refine wpList_nil ?_; refine then_normal ?_; refine ⟨fun h => absurd h (by decide), hC, ?_⟩
  refine kc_one (listed' := #[true, true, true, true, true, true, true, true, true, true, true, true, true, true, true]) 14 rfl (by kernel_rfl) rfl ?_
  obtain ⟨aA, cA, rfl, -, -⟩ := (M.readAll 0 rfl (by unfold maxLen; omega)).form
  refine st_updateM (pos := 3) S M (keyJ) (O.good) Try.underlying46 rfl rfl rfl rfl rfl ?_; clear M; intro w7 M
  simp only [List.set_cons_zero, List.set_cons_succ] at M
  replace hC := M.blk 2 rfl
  refine wpList_nil ?_; refine then_normal ?_; refine ⟨fun h => absurd h (by decide), hC, ?_⟩
  refine kc_end (by kernel_rfl) ?_
  replace S := S.sub [(0, _), (1, _), (2, _), (6, _), (9, _), (13, _), (21, _), (26, _), (7, _)] rfl
  refine nxE ?_
  refine st_go [1] S rfl (by kernel_rfl) ?_; clear S a; intro a S
  refine nxC ?_
  refine wp_ret ?_
  refine end_one S rfl (res_tmp rfl) ?_
  refine ⟨rfl, ?_⟩
  replace M := M.front 3 rfl
  simp only [List.eraseIdx_cons_succ, List.eraseIdx_cons_zero] at M
  replace M := M.front 3 rfl
  simp only [List.eraseIdx_cons_succ, List.eraseIdx_cons_zero] at M
  replace M := M.drop 3
  simp only [List.eraseIdx_cons_succ, List.eraseIdx_cons_zero] at M
  obtain ⟨s', hs'⟩ : ∃ s' : Sec, s' = ⟨k, loA, hiA, aA, cA, s.ws ++ [r]⟩ := ⟨_, rfl⟩
  have hsl : (s.ws ++ [r]).length = s.ws.length + 1 := by simp
  have hsv : s'.val = .slice aA (s.ws.length + 1) cA := by rw [hs']; unfold Sec.val; rw [hsl]
  have := Dk.close O (s' := s') (r := r) hk hkey hsec hnd hca h64 (by rw [hs']) (by rw [hs']) (by rw [hrb]; exact hpl) (A := A) (w0 := wc) (w := w7)
  rw [hrb] at this
  have hse : s'.ent = rowE loA hiA 32 1 (.slice aA (s.ws.length + 1) cA) (s.ws.length + 1) (s.ws.map RB.val ++ [.slice (some ⟨bSE, 0, none⟩) 64 64]) := by
    rw [hs']; unfold Sec.ent Sec.val; simp only [hsl, List.map_append, List.map_cons, List.map_nil, hrv]
  rw [hsv, hse] at this
  obtain ⟨E', h1, h2⟩ := this (M.perm (List.Perm.cons _ (List.Perm.cons _ (List.Perm.cons _ List.perm_middle))))
  exact ⟨E', h1, h2.perm List.perm_append_comm⟩

end Go.Proofs.Ytafejnbfgkkjkaa
