/-
  Package disk: Read, Up.
-/
import Derived.Test.YtafejnbfgkkjkaaDkc
namespace Go.Proofs.Ytafejnbfgkkjkaa
open Go.RowKit Go.Sort

theorem cloneB_any (v : Value) (bs : List UInt8) (w : World) (hv : Bs 0 w.heap.size w v bs) (hl : bs.length ≤ 140737488351232) : Calls Try.prog 62 #[v] w fun e w' => ∃ v', e = .returned v' ∧ Fresh w w' 5 1 v' bs.length (bcells bs) := by
  have M := Mem.start w
  refine calls_enter Try.func62 rfl 8 rfl rfl ?_; intro a S
  refine nxD ?_
  refine st_go [1] S rfl (by kernel_rfl) ?_; clear S a; intro a S
  refine nxC ?_
  refine wp_seq ?_
  refine nxD ?_
  refine st_go [1] S rfl (by kernel_rfl) ?_; clear S a; intro a S
  refine st_y S rfl rfl rfl (y_eqlNil (e := 5) S rfl (M.arg hv) (by kernel_rfl)) ?_; clear S a; intro a S
  refine nxC ?_
  refine st_split (t := 4) S rfl ?_ ?_
  · clear S; intro h4 S
    refine st_condT S rfl ?_
    refine nxD ?_
    refine st_go [1] S rfl (by kernel_rfl) ?_; clear S a; intro a S
    refine nxC ?_
    refine wp_ret ?_
    refine then_ret ?_
    refine end_one S rfl (res_tmp rfl) ?_
    obtain ⟨rfl, h0, h1⟩ := hv.nilV h4
    exact ⟨_, rfl, by rw [h1, h0]; exact M.freshNil _ _⟩
  clear S; intro h4 S
  refine st_condF S rfl ?_
  refine wp_skip ?_
  refine nxE ?_
  refine st_lit0 (e := 5) (sz := 1) (by_ := 1) (zc := [.int .u8 0]) S M rfl rfl (by kernel_rfl) ?_; clear S M a; intro a w1 b1 S M hB
  refine st_go [1] S rfl (by kernel_rfl) ?_; clear S a; intro a S
  replace M := M.toRow (sz := 1) (m := 0) (cap := 0) (xs := []) 0 rfl rfl (Nat.le_refl _) (Nat.zero_le _) rfl rfl
  refine st_append (e := 5) (sz := 1) (by_ := 1) (zc := [.int .u8 0]) S M 0 rfl rfl (by kernel_rfl) rfl (by decide) rfl rfl rfl (M.arg hv) (allOne_bcells _) (by omega) (by unfold maxLen; omega) ?_; clear S M a; intro a w2 vA loA hiA S M
  refine st_go [1] S rfl (by kernel_rfl) ?_; clear S a; intro a S
  refine nxC ?_
  refine wp_ret ?_
  refine end_one S rfl (res_tmp rfl) ?_
  exact ⟨_, rfl, by have := M.fresh 0 rfl; rwa [Nat.zero_add, List.nil_append] at this⟩
theorem dcells_at {dur : List UInt8} (h : dur.length = 2176) {m : Nat} {d : Bool} {k : Nat} (hk : k < 34) {W : World} {b : Nat} {T : TypeId} (B : Blk W b (dcells dur m d).toArray T) : CellsAt W b (k * 64) (bcells (durAt dur k)) := by
  intro j hj
  rw [bcells_length, durAt_len h hk] at hj
  rw [B.cells]
  unfold dcells durAt
  rw [List.getElem?_toArray, List.getElem?_append_left (by rw [bcells_length]; omega), ← bcells_cut, List.getElem?_take_of_lt hj, List.getElem?_drop]
/-- what a sector reads as -/
def DS.get (S : DS) (k : Nat) : List UInt8 := match (S.cache (k : Int)).getLast? with
  | some b => b
  | none => S.dur k
theorem Mem.readB {w0 w : World} {H : List Ent} (M : Mem w0 w H) {r : RB} (hr : r.ent ∈ H) (hl : r.bs.length ≤ 1000000) : Bs 0 w.heap.size w r.val r.bs := by
  obtain ⟨p, hp⟩ := List.getElem?_of_mem hr
  exact M.readAll p hp (by unfold maxLen; omega)
set_option maxHeartbeats 1000000 in
theorem dread_any {wc w : World} {A E : List Ent} {b : Nat} {S0 : DS} {k : Nat} (hE : DkE b S0 E) (M : Mem wc w (A ++ E)) (hup : S0.down = false) (hk : k < 34) (hw : (S0.cache (k : Int)).length ≤ 1000000) :
    Calls Try.prog 54 #[.pointer (some ⟨b, 0, none⟩), .int .i64 (k : Int)] w fun e w' => ∃ v', e = .returned (.tuple #[v', .int .i64 0]) ∧ Fresh w w' 5 1 v' (S0.get k).length (bcells (S0.get k)) ∧ (S0.get k).length = 64 := by
  obtain ⟨D, rfl, O, rfl, rfl⟩ := hE
  obtain ⟨P, Q, s, hkey, hsec, hnd, hval, hca, h64, M1⟩ := Dk.open O (k : Int) (by omega) (M.perm List.perm_append_comm)
  clear M; have M := M1; clear M1
  have hd : D.down = false := hup
  have hwl : s.ws.length ≤ 1000000 := by
    have e : (cacheOf D.secs (k : Int)).length = s.ws.length := by rw [hca, List.length_map]
    rw [← e]; exact hw
  have hget : D.st.get k = match s.ws.getLast? with | some r => r.bs | none => durAt D.dur k := by
    unfold DS.get Dk.st
    simp only [hca, List.getLast?_map]
    cases s.ws.getLast? <;> rfl
  have hM0 := M
  refine calls_enter Try.func54 rfl 39 rfl rfl ?_; intro a S
  refine wp_seq ?_
  skip
  refine wp_region_lit ?_
  refine st_go [1, 1] S rfl (by kernel_rfl) ?_; clear S a; intro a S
  refine nxC ?_
  refine wp_seq ?_
  refine nxD ?_
  refine st_go [1] S rfl (by kernel_rfl) ?_; clear S a; intro a S
  refine st_y S rfl rfl rfl (y_eqlPS (by kernel_rfl) S rfl) ?_; clear S a; intro a S
  refine nxC ?_
  refine st_condF S rfl ?_
  refine wp_skip ?_
  refine then_normal ?_
  refine wp_seq ?_
  refine nxD ?_
  refine st_go [1, 1, 2178] S rfl (by kernel_rfl) ?_; clear S a; intro a S
  refine st_y S rfl rfl rfl (y_load S (by kernel_rfl) rfl (M.cell 0 rfl ((dcells_down O.dur _ _).trans (by rw [hd])))) ?_; clear S a; intro a S
  refine nxC ?_
  refine st_if (t := 12) S rfl ?_ ?_
  · clear S; intro h12 S
    cases h12
  clear S; intro h12 S
  refine st_condF S rfl ?_
  refine wp_skip ?_
  refine then_normal ?_
  refine wp_seq ?_
  refine nxD ?_
  refine st_go [1] S rfl (by kernel_rfl) ?_; clear S a; intro a S
  refine st_call (xs := [(Operand.tmp 13)]) S (enters_of Try.func43 (by decide) rfl) rfl rfl rfl (is_any (k : Int) _) ?_
  rintro _ w1 ⟨rfl, hK⟩; refine ⟨_, rfl, ?_⟩; clear S a; intro a S; replace M := M.grow hK
  refine st_go [1] S rfl (by kernel_rfl) ?_; clear S a; intro a S
  refine nxC ?_
  refine st_if (t := 15) S rfl ?_ ?_
  · clear S; intro h15 S
    exfalso; simp at h15; omega
  clear S; intro h15 S
  refine st_condF S rfl ?_
  refine wp_skip ?_
  refine then_normal ?_
  refine wp_seq ?_
  refine nxD ?_
  refine st_go [1, 1, 2177] S rfl (by kernel_rfl) ?_; clear S a; intro a S
  refine st_y S rfl rfl rfl (y_load S (by kernel_rfl) rfl (M.cell 0 rfl (dcells_map O.dur _ _))) ?_; clear S a; intro a S
  refine st_go [1] S rfl (by kernel_rfl) ?_; clear S a; intro a S
  refine st_y S rfl rfl rfl (y_lookupM (pos := 1) S M (keyJ) (O.good) Try.underlying46 (zero_sl) rfl rfl rfl) ?_; clear S a; intro a S
  simp only [Bool.false_eq_true, if_false, hval] at S
  refine st_y S rfl rfl rfl (y_assign S rfl) ?_; clear S a; intro a S
  refine nxA ?_
  refine st_go [1] S rfl (by kernel_rfl) ?_; clear S a; intro a S
  refine st_y S rfl rfl rfl (y_lenS (E := 32) S rfl (by kernel_rfl)) ?_; clear S a; intro a S
  refine st_go [1] S rfl (by kernel_rfl) ?_; clear S a; intro a S
  replace S := S.sub [(0, _), (1, _), (4, _), (5, _), (8, _), (12, _), (15, _), (6, _), (24, _)] rfl
  refine nxC ?_
  refine st_fi (t := 24) S rfl ?_ ?_
  · clear S; intro h24 S
    refine st_condF S rfl ?_
    refine wp_skip ?_
    refine then_normal ?_
    refine wp_seq ?_
    have hws : s.ws = [] := List.eq_nil_of_length_eq_zero (by omega)
    have hget2 : D.st.get k = durAt D.dur k := by rw [hget, hws]; rfl
    refine wp_region_lit ?_
    refine st_go [1, 1, 1, 1] S rfl (by kernel_rfl) ?_; clear S a; intro a S
    refine st_y S rfl rfl rfl (y_indexA (m := 34) (sz := 64) S (by kernel_rfl) rfl rfl (by first | omega | (simp; done) | (simp; omega))) ?_; clear S a; intro a S
    try simp only [Int.toNat_natCast, Nat.mul_one, Nat.zero_add] at S
    try simp only [Int.toNat_natCast, Nat.zero_add] at S
    refine st_y S rfl rfl rfl (y_sliceA (m := 64) (sz := 1) S (by kernel_rfl) rfl) ?_; clear S a; intro a S
    refine st_call (xs := [(Operand.tmp 37)]) S (enters_of Try.func62 (by decide) rfl) rfl rfl rfl (cloneB_any _ (durAt D.dur k) _ (by unfold Bs; rw [durAt_len O.dur hk]; exact M.sliceAt (m := 64) (sz := 1) 0 rfl (dcells_at O.dur hk (M.blk 0 rfl)) (by rw [bcells_length, durAt_len O.dur hk]) (Nat.le_refl _) (by decide)) (by rw [durAt_len O.dur hk]; decide)) ?_
    rintro _ w3 ⟨v', rfl, hF⟩; refine ⟨_, rfl, ?_⟩; clear S a; intro a S
    refine st_go [1, 1] S rfl (by kernel_rfl) ?_; clear S a; intro a S
    refine nxC ?_
    refine wp_ret ?_
    refine end_two S rfl (res_tmp rfl) (res_tmp rfl) ?_
    exact ⟨v', rfl, by rw [hget2]; exact hF.from hK, by rw [hget2]; exact durAt_len O.dur hk⟩
  clear S; intro h24 S
  refine st_condT S rfl ?_
  refine wp_seq ?_
  obtain ⟨r, hr⟩ : ∃ r, s.ws[s.ws.length - 1]? = some r := ⟨_, List.getElem?_eq_getElem (by omega)⟩
  have hrm := List.mem_of_getElem? hr
  have hget2 : D.st.get k = r.bs := by rw [hget, List.getLast?_eq_getElem?, hr]
  have hrl := h64 r hrm
  refine wp_region_lit ?_
  refine st_go [1, 1] S rfl (by kernel_rfl) ?_; clear S a; intro a S
  refine st_y S rfl rfl rfl (y_lenS (E := 32) S rfl (by kernel_rfl)) ?_; clear S a; intro a S
  (first | refine st_y S rfl rfl rfl (y_subN S rfl rfl (by omega)) ?_ | refine st_y S rfl rfl rfl (y_int S rfl rfl rfl) ?_); clear S a; intro a S
  rw [show ((s.ws.length : Int) - 1) = ((s.ws.length - 1 : Nat) : Int) by omega] at S
  refine st_y S rfl rfl rfl (y_indexR (e := 32) (sz := 1) S (by kernel_rfl) rfl (M.readAll 2 rfl (by unfold maxLen; omega)) rfl (by first | omega | (simp; done) | (simp; omega))) ?_; clear S a; intro a S
  try simp only [Int.toNat_natCast, Nat.mul_one, Nat.zero_add] at S
  refine st_y S rfl rfl rfl (y_load S (by kernel_rfl) rfl ((M.readAll 2 rfl (by unfold maxLen; omega)).at_.one (s.ws.length - 1) (by rw [List.getElem?_map, hr]; rfl))) ?_; clear S a; intro a S
  refine st_call (xs := [(Operand.tmp 30)]) S (enters_of Try.func62 (by decide) rfl) rfl rfl rfl (cloneB_any r.val r.bs _ (M.readB (r := r) (by simp only [List.mem_cons, List.mem_append, List.mem_map]; exact .inr (.inr (.inr (.inl (.inl ⟨r, hrm, rfl⟩))))) (by omega)) (by omega)) ?_
  rintro _ w2 ⟨v', rfl, hF⟩; refine ⟨_, rfl, ?_⟩; clear S a; intro a S
  refine st_go [1, 1] S rfl (by kernel_rfl) ?_; clear S a; intro a S
  refine nxC ?_
  refine wp_ret ?_
  refine then_ret ?_
  refine end_two S rfl (res_tmp rfl) (res_tmp rfl) ?_
  exact ⟨v', rfl, by rw [hget2]; exact hF.from hK, by rw [hget2]; exact hrl⟩
theorem up_any {wc w : World} {A E : List Ent} {b : Nat} {S0 : DS} (hE : DkE b S0 E) (M : Mem wc w (A ++ E)) (hup : S0.down = true) :
    Calls Try.prog 13 #[.pointer (some ⟨b, 0, none⟩)] w fun e w' => e = .returned (.int .i64 0) ∧ ∃ E', DkE b { S0 with down := false } E' ∧ Mem wc w' (A ++ E') := by
  obtain ⟨D, rfl, O, rfl, rfl⟩ := hE
  replace M := M.perm List.perm_append_comm
  have hd : D.down = true := hup
  replace M : Mem wc w (.blk D.b (dcells D.dur D.m D.down).toArray 50 :: mapX D.m D.ml D.cl :: (secsE D.secs ++ A)) := M
  refine calls_enter Try.func13 rfl 13 rfl rfl ?_; intro a S
  refine wp_seq ?_
  skip
  refine wp_region_lit ?_
  refine st_go [1] S rfl (by kernel_rfl) ?_; clear S a; intro a S
  refine nxC ?_
  refine wp_seq ?_
  refine nxD ?_
  refine st_go [1] S rfl (by kernel_rfl) ?_; clear S a; intro a S
  refine st_y S rfl rfl rfl (y_eqlPS (by kernel_rfl) S rfl) ?_; clear S a; intro a S
  refine nxC ?_
  refine st_condF S rfl ?_
  refine wp_skip ?_
  refine then_normal ?_
  refine wp_seq ?_
  refine nxD ?_
  refine st_go [1, 1, 2178] S rfl (by kernel_rfl) ?_; clear S a; intro a S
  refine st_y S rfl rfl rfl (y_load S (by kernel_rfl) rfl (M.cell 0 rfl ((dcells_down O.dur _ _).trans (by rw [hd])))) ?_; clear S a; intro a S
  refine st_go [1] S rfl (by kernel_rfl) ?_; clear S a; intro a S
  refine nxC ?_
  refine st_if (t := 9) S rfl ?_ ?_
  · clear S; intro h9 S
    cases h9
  clear S; intro h9 S
  refine st_condF S rfl ?_
  refine wp_skip ?_
  refine nxE ?_
  refine st_go [1, 1, 2178] S rfl (by kernel_rfl) ?_; clear S a; intro a S
  refine st_store (us := [.bool false]) S M 0 rfl (by kernel_rfl) rfl rfl rfl rfl rfl rfl (by rw [dcells_len O.dur]; decide) ?_; clear M; intro wS M
  simp only [List.set_cons_zero, List.set_cons_succ] at M
  rw [dcells_setDown O.dur] at M
  refine nxA ?_
  refine st_go [1] S rfl (by kernel_rfl) ?_; clear S a; intro a S
  refine nxC ?_
  refine wp_ret ?_
  refine end_one S rfl (res_tmp rfl) ?_
  refine ⟨rfl, _, ⟨⟨D.b, D.m, D.cl, D.ml, D.dur, false, D.secs⟩, rfl, ⟨O.dur, O.good, O.nodup, O.tell, O.sec⟩, rfl, rfl⟩, ?_⟩
  exact Mem.perm (H := Dk.ents ⟨D.b, D.m, D.cl, D.ml, D.dur, false, D.secs⟩ ++ A) M List.perm_append_comm

end Go.Proofs.Ytafejnbfgkkjkaa
