/-
  Package disk: Flush.
-/
import Derived.Test.YtafejnbfgkkjkaaDkd
namespace Go.Proofs.Ytafejnbfgkkjkaa
open Go.RowKit Go.Sort

/-- a sector's bytes set -/
def dset (dur : List UInt8) (k : Nat) (bs : List UInt8) : List UInt8 := dur.take (k * 64) ++ bs ++ dur.drop (k * 64 + 64)
theorem dset_len {dur bs : List UInt8} {k : Nat} (h : dur.length = 2176) (hk : k < 34) (hb : bs.length = 64) : (dset dur k bs).length = 2176 := by
  unfold dset; simp only [List.length_append, List.length_take, List.length_drop]; omega
theorem dset_at {dur bs : List UInt8} {k : Nat} (h : dur.length = 2176) (hk : k < 34) (hb : bs.length = 64) (j : Nat) : durAt (dset dur k bs) j = if j = k then bs else durAt dur j := by
  have hl : (dur.take (k * 64)).length = k * 64 := by rw [List.length_take]; omega
  unfold durAt dset
  by_cases e : j = k
  · subst e
    rw [if_pos rfl, List.append_assoc]
    have := List.drop_left (l₁ := dur.take (j * 64)) (l₂ := bs ++ dur.drop (j * 64 + 64))
    rw [hl] at this
    rw [this, ← hb, List.take_left]
  · rw [if_neg e]
    rcases Nat.lt_or_ge j k with hj | hj
    · rw [List.append_assoc, List.drop_append_of_le_length (by omega), List.take_append_of_le_length (by rw [List.length_drop]; omega), List.drop_take, List.take_take, Nat.min_eq_left (by omega)]
    · have hl2 : (dur.take (k * 64) ++ bs).length = k * 64 + 64 := by rw [List.length_append, hl, hb]
      rw [List.drop_append, List.drop_of_length_le (by omega), List.nil_append, hl2, List.drop_drop]
      congr 2; omega
theorem dcells_put {dur bs : List UInt8} {k m : Nat} {d : Bool} (h : dur.length = 2176) (hk : k < 34) (hb : bs.length = 64) : (dcells dur m d).take (k * 64) ++ bcells bs ++ (dcells dur m d).drop (k * 64 + (bcells bs).length) = dcells (dset dur k bs) m d := by
  unfold dcells dset
  rw [bcells_length, hb, List.take_append_of_le_length (by rw [bcells_length]; omega), List.drop_append_of_le_length (by rw [bcells_length]; omega), bcells_append, bcells_append]
  simp only [bcells, List.map_take, List.map_drop, List.append_assoc]
theorem getM_mem {l : Mes Int} (h : (l.map (·.1)).Nodup) {q : Int × MapEntry} (hq : q ∈ l) : getM l q.1 = some q.2.val := by
  unfold getM
  cases hf : l.find? (fun p => decide (p.1 = q.1)) with
  | none => rw [List.find?_eq_none] at hf; exact absurd (by simp) (hf q hq)
  | some p =>
    have h1 := List.find?_some hf
    have h2 := List.mem_of_find?_eq_some hf
    simp only [decide_eq_true_eq] at h1
    obtain ⟨i, hi⟩ := List.getElem?_of_mem hq
    obtain ⟨j, hj⟩ := List.getElem?_of_mem h2
    have e1 : (l.map (·.1))[i]? = some q.1 := by rw [List.getElem?_map, hi]; rfl
    have e2 : (l.map (·.1))[j]? = some q.1 := by rw [List.getElem?_map, hj, ← h1]; rfl
    have := (List.getElem?_inj (List.getElem?_eq_some_iff.1 e1).1 h).1 (e1.trans e2.symm)
    subst this
    rw [hi] at hj; obtain rfl := Option.some.inj hj; rfl
theorem nodup_lenJ {α : Type} : ∀ {a b : List α}, a.Nodup → (∀ x ∈ a, x ∈ b) → a.length ≤ b.length
  | [], _, _, _ => Nat.zero_le _
  | x :: a, b, hn, hs => by
    obtain ⟨b1, b2, rfl⟩ := List.append_of_mem (hs x (by simp))
    rw [List.nodup_cons] at hn
    have := nodup_lenJ (a := a) (b := b1 ++ b2) hn.2 fun y hy => by
      rcases List.mem_append.1 (hs y (by simp [hy])) with h | h
      · exact List.mem_append_left _ h
      · rcases List.mem_cons.1 h with h | h
        · exact absurd (h ▸ hy) hn.1
        · exact List.mem_append_right _ h
    simp only [List.length_append, List.length_cons] at this ⊢
    omega
/-- all that was written is durable -/
def DS.flush (S : DS) : DS := ⟨S.get, fun _ => [], S.down⟩

/-- a sector's writes, where a disk's entries are owned -/
theorem Dk.look {D : Dk} (O : D.Ok) {q : Int × MapEntry} (hq : q ∈ D.ml) : ∃ (s : Sec) (r : RB) (k : Nat), s ∈ D.secs ∧ q.1 = (k : Int) ∧ k < 34 ∧ q.2.val = s.val ∧ 0 < s.ws.length ∧ s.ws[s.ws.length - 1]? = some r ∧ r.bs.length = 64 ∧ D.st.get k = r.bs := by
  have h1 := getM_mem O.good.nodup hq
  rw [O.tell] at h1
  cases hs : secOf D.secs q.1 with
  | none => rw [hs] at h1; cases h1
  | some s =>
    rw [hs] at h1
    have hv : s.val = q.2.val := Option.some.inj h1
    obtain ⟨P, Q, e, hkey⟩ := secOf_some hs
    have hm : s ∈ D.secs := by rw [e]; simp
    obtain ⟨⟨hk1, hk2⟩, hne, h64⟩ := O.sec s hm
    have hpos : 0 < s.ws.length := List.length_pos_iff.2 hne
    obtain ⟨r, hr⟩ : ∃ r, s.ws[s.ws.length - 1]? = some r := ⟨_, List.getElem?_eq_getElem (by omega)⟩
    refine ⟨s, r, q.1.toNat, hm, by omega, by omega, hv.symm, hpos, hr, h64 r (List.mem_of_getElem? hr), ?_⟩
    unfold DS.get Dk.st cacheOf
    simp only [show ((q.1.toNat : Nat) : Int) = q.1 by omega, hs, List.getLast?_eq_getElem?, List.length_map, List.getElem?_map, hr, Option.map_some]
theorem Dk.getNo {D : Dk} (O : D.Ok) {k : Nat} (h : ∀ q ∈ D.ml, q.1 ≠ (k : Int)) : D.st.get k = durAt D.dur k := by
  have hn : (k : Int) ∉ D.ml.map (·.1) := fun hm => by
    obtain ⟨q, hq, e⟩ := List.mem_map.1 hm
    exact h q hq e
  have h1 := O.tell (k : Int)
  rw [getM_none hn] at h1
  unfold DS.get Dk.st cacheOf
  cases hs : secOf D.secs (k : Int) with
  | some s => rw [hs] at h1; cases h1
  | none => simp only [hs, List.getLast?_nil]
theorem Mem.secRow {w0 w : World} {H : List Ent} (M : Mem w0 w H) {s : Sec} (hs : s.ent ∈ H) (hl : s.ws.length ≤ 1000000) : Rd 0 w.heap.size w 1 s.val s.ws.length (s.ws.map RB.val) := by
  obtain ⟨p, hp⟩ := List.getElem?_of_mem hs
  exact M.readAll p hp (by unfold maxLen; omega)
theorem secsE_ent {l : List Sec} {s : Sec} (h : s ∈ l) : s.ent ∈ secsE l := List.mem_flatMap.2 ⟨s, h, List.mem_cons_self ..⟩
theorem secsE_ws {l : List Sec} {s : Sec} (h : s ∈ l) {r : RB} (hr : r ∈ s.ws) : r.ent ∈ secsE l := List.mem_flatMap.2 ⟨s, h, List.mem_cons_of_mem _ (List.mem_map_of_mem hr)⟩
theorem dk_empty {b m cl : Nat} {dur : List UInt8} (h : dur.length = 2176) : Dk.Ok ⟨b, m, cl, [], dur, false, []⟩ := ⟨h, good_nil _, .nil, fun _ => rfl, fun s hs => (by cases hs)⟩
set_option maxHeartbeats 2000000 in
theorem flush_any {wc w : World} {A E : List Ent} {b : Nat} {S0 : DS} (hE : DkE b S0 E) (M : Mem wc w (A ++ E)) (hup : S0.down = false) (hw : ∀ k, (S0.cache k).length ≤ 1000000) :
    Calls Try.prog 18 #[.pointer (some ⟨b, 0, none⟩)] w fun e w' => e = .returned (.int .i64 0) ∧ ∃ E', DkE b S0.flush E' ∧ Mem wc w' (A ++ E') := by
  obtain ⟨D, rfl, O, rfl, rfl⟩ := hE
  replace M := M.perm List.perm_append_comm
  have hd : D.down = false := hup
  have hsl : ∀ s ∈ D.secs, s.ws.length ≤ 1000000 := fun s hs => by
    have h1 := hw s.key
    obtain ⟨P, Q, e⟩ := List.append_of_mem hs
    have h2 := secOf_mid (by rw [← e]; exact O.nodup) (P := P) (Q := Q) (s := s) s.key
    rw [if_pos rfl, ← e] at h2
    unfold Dk.st cacheOf at h1
    simp only [h2, List.length_map] at h1
    exact h1
  replace M : Mem wc w (.blk D.b (dcells D.dur D.m D.down).toArray 50 :: mapX D.m D.ml D.cl :: (secsE D.secs ++ A)) := M
  refine calls_enter Try.func18 rfl 38 rfl rfl ?_; intro a S
  refine wp_seq ?_
  skip
  refine wp_region_lit ?_
  refine st_go [1] S rfl (by kernel_rfl) ?_; clear S a; intro a S
  refine nxC ?_
  refine wp_seq ?_
  refine nxD ?_
  refine st_go [1] S rfl (by kernel_rfl) ?_; clear S a; intro a S
  refine st_y S rfl rfl rfl (y_eqlPS (by kernel_rfl) S rfl) ?_; clear S a; intro a S
  refine nxC ?_
  refine st_condF S rfl ?_
  refine wp_skip ?_
  refine then_normal ?_
  refine wp_seq ?_
  refine nxD ?_
  refine st_go [1, 1, 2178] S rfl (by kernel_rfl) ?_; clear S a; intro a S
  refine st_y S rfl rfl rfl (y_load S (by kernel_rfl) rfl (M.cell 0 rfl ((dcells_down O.dur _ _).trans (by rw [hd])))) ?_; clear S a; intro a S
  refine nxC ?_
  refine st_if (t := 10) S rfl ?_ ?_
  · clear S; intro h10 S
    cases h10
  clear S; intro h10 S
  refine st_condF S rfl ?_
  refine wp_skip ?_
  refine then_normal ?_
  refine wp_seq ?_
  refine nxD ?_
  refine st_go [1, 1, 2177] S rfl (by kernel_rfl) ?_; clear S a; intro a S
  refine st_y S rfl rfl rfl (y_load S (by kernel_rfl) rfl (M.cell 0 rfl (dcells_map O.dur _ _))) ?_; clear S a; intro a S
  refine st_rangeM (pos := 1) S M Try.underlying46 rfl rfl rfl rfl ?_; clear S M a; intro a w1 bI S M hB
  refine nxC ?_
  refine wp_block ?_
  refine wp_loop_g (fun m a w' => ∃ (vs : Mes Int) (dur : List UInt8), (∀ p ∈ vs, p ∈ D.ml) ∧ vs.Nodup ∧ m = D.ml.length - vs.length ∧ dur.length = 2176 ∧ (∀ j : Nat, durAt dur j = if (j : Int) ∈ vs.map (·.1) then D.st.get j else durAt D.dur j) ∧ Sees 38 a [(0, .pointer (some ⟨D.b, 0, none⟩)), (15, .pointer (some ⟨bI, 0, none⟩))] ∧ Mem wc w' (itX bI D.m D.cl (bornsM vs) D.cl :: .blk D.b (dcells dur D.m D.down).toArray 50 :: mapX D.m D.ml D.cl :: (secsE D.secs ++ A))) (D.ml.length) ?_ ?_
  · skip
    exact ⟨[], D.dur, fun p h => (by cases h), .nil, rfl, O.dur, fun j => (by simp), S.sub _ rfl, M⟩
  clear S M a; intro m a wl
  rintro ⟨vs, dur, hvs, hnd, rfl, hdl, hdat, S, M⟩
  refine nxD ?_
  refine st_nextM (pos := 0) (pm := 2) S M (O.good) (hvs) rfl rfl rfl rfl rfl ?_ ?_
  · intro hAll; clear S a; intro a S
    refine st_go [1] S rfl (by kernel_rfl) ?_; clear S a; intro a S
    refine nxC ?_
    refine wp_seq ?_
    refine st_condF S rfl ?_
    refine wp_exit ?_
    refine then_exit ?_
    refine then_exit ?_
    refine block_hit ?_
    refine nxE ?_
    refine st_go [1, 1, 2177] S rfl (by kernel_rfl) ?_; clear S a; intro a S
    refine st_y S rfl rfl rfl (y_load S (by kernel_rfl) rfl (M.cell 1 rfl (dcells_map hdl _ _))) ?_; clear S a; intro a S
    refine st_clearM (pos := 2) S M Try.underlying46 rfl rfl rfl ?_; clear M; intro w2 M
    simp only [List.set_cons_zero, List.set_cons_succ] at M
    refine nxA ?_
    refine st_go [1] S rfl (by kernel_rfl) ?_; clear S a; intro a S
    refine nxC ?_
    refine wp_ret ?_
    refine end_one S rfl (res_tmp rfl) ?_
    refine ⟨rfl, ?_⟩
    replace M := M.drop 0
    simp only [List.eraseIdx_cons_succ, List.eraseIdx_cons_zero] at M
    have hfl : D.st.flush = Dk.st ⟨D.b, D.m, D.cl, [], dur, false, []⟩ := by
      unfold DS.flush
      show DS.mk D.st.get (fun _ => []) D.st.down = DS.mk (durAt dur) (cacheOf []) false
      rw [show D.st.down = false from hd]
      congr 1
      funext j
      rw [hdat j]
      by_cases e : (j : Int) ∈ vs.map (·.1)
      · rw [if_pos e]
      · rw [if_neg e]
        exact Dk.getNo O fun q hq e2 => e (List.mem_map.2 ⟨q, hAll q hq, e2⟩)
    rw [hfl]
    refine ⟨_, ⟨⟨D.b, D.m, D.cl, [], dur, false, []⟩, rfl, dk_empty hdl, rfl, rfl⟩, ?_⟩
    rw [hd] at M
    exact (M.sub (H' := Dk.ents ⟨D.b, D.m, D.cl, [], dur, false, []⟩ ++ A) (.cons_cons _ (.cons_cons _ (List.sublist_append_right _ _)))).perm List.perm_append_comm
  intro q hq hnv; clear S M a; intro a w3 S M
  simp only [List.set_cons_zero, List.set_cons_succ] at M
  refine st_go [1] S rfl (by kernel_rfl) ?_; clear S a; intro a S
  refine nxC ?_
  refine wp_seq ?_
  refine st_condT S rfl ?_
  refine wp_skip ?_
  refine then_normal ?_
  refine wp_block ?_
  refine nxD ?_
  refine st_y S rfl rfl rfl (y_entryM (pos := 0) (pm := 2) S M (O.good) hq rfl rfl rfl) ?_; clear S a; intro a S
  refine st_go [1, 1, 1, 1] S rfl (by kernel_rfl) ?_; clear S a; intro a S
  refine nxC ?_
  obtain ⟨s, r, k, hsm, hqk, hk34, hqv, hpos, hr, hr64, hget⟩ := Dk.look O hq
  have hrm := List.mem_of_getElem? hr
  have hlw := hsl s hsm
  rw [hqk, hqv] at S
  refine wp_regionK [12] #[false, false, false, false, false, false, false, false, false, false, false, false, false] rfl M (by kernel_rfl) ?_; clear M; intro w4 M
  refine k_pure (listed' := #[true, false, false, false, false, false, false, false, false, false, false, false, false]) 0 S rfl rfl rfl rfl (by kernel_rfl) rfl (fun _ d _ _ _ h => by cases d <;> exact h) (fun w => y_move S rfl) ?_; clear S a; intro a S
  refine k_pure (listed' := #[true, true, false, false, false, false, false, false, false, false, false, false, false]) 1 S rfl rfl rfl rfl (by kernel_rfl) rfl (fun _ d _ _ _ h => by cases d <;> exact h) (fun w => y_move S rfl) ?_; clear S a; intro a S
  refine k_pure (listed' := #[true, true, true, false, false, false, false, false, false, false, false, false, false]) 2 S rfl rfl rfl rfl (by kernel_rfl) rfl (fun _ d _ _ _ h => by cases d <;> exact h) (fun w => y_nilCheck S rfl) ?_; clear S a; intro a S
  refine k_pure (listed' := #[true, true, true, true, false, false, false, false, false, false, false, false, false]) 3 S rfl rfl rfl rfl (by kernel_rfl) rfl (fun _ d _ _ _ h => by cases d <;> exact h) (fun w => y_fieldAddr (k := 0) S (by kernel_rfl) rfl) ?_; clear S a; intro a S
  refine k_pure (listed' := #[true, true, true, true, true, false, false, false, false, false, false, false, false]) 4 S rfl rfl rfl rfl (by kernel_rfl) rfl (fun _ d _ _ _ h => by cases d <;> exact h) (fun w => y_indexA (m := 34) (sz := 64) S (by kernel_rfl) rfl rfl (by first | omega | (simp; done) | (simp; omega))) ?_; clear S a; intro a S
  try simp only [Int.toNat_natCast, Nat.mul_one, Nat.zero_add] at S
  refine k_pure (listed' := #[true, true, true, true, true, true, false, false, false, false, false, false, false]) 5 S rfl rfl rfl rfl (by kernel_rfl) rfl (fun _ d _ _ _ h => by cases d <;> exact h) (fun w => y_sliceA (m := 64) (sz := 1) S (by kernel_rfl) rfl) ?_; clear S a; intro a S
  refine k_pure (listed' := #[true, true, true, true, true, true, true, false, false, false, false, false, false]) 6 S rfl rfl rfl rfl (by kernel_rfl) rfl (fun _ d _ _ _ h => by cases d <;> exact h) (fun w => y_move S rfl) ?_; clear S a; intro a S
  refine k_pure (listed' := #[true, true, true, true, true, true, true, true, false, false, false, false, false]) 7 S rfl rfl rfl rfl (by kernel_rfl) rfl (fun _ d _ _ _ h => by cases d <;> exact h) (fun w => y_move S rfl) ?_; clear S a; intro a S
  refine k_pure (listed' := #[true, true, true, true, true, true, true, true, true, false, false, false, false]) 8 S rfl rfl rfl rfl (by kernel_rfl) rfl (fun _ d _ _ _ h => by cases d <;> exact h) (fun w => y_lenS (E := 32) S rfl (by kernel_rfl)) ?_; clear S a; intro a S
  skip
  (first | refine k_pure (listed' := #[true, true, true, true, true, true, true, true, true, true, false, false, false]) 9 S rfl rfl rfl rfl (by kernel_rfl) rfl (fun _ d _ _ _ h => by cases d <;> exact h) (fun w => y_subN S rfl rfl (by omega)) ?_ | refine k_pure (listed' := #[true, true, true, true, true, true, true, true, true, true, false, false, false]) 9 S rfl rfl rfl rfl (by kernel_rfl) rfl (fun _ d _ _ _ h => by cases d <;> exact h) (fun w => y_int S rfl rfl rfl) ?_); clear S a; intro a S
  rw [show ((s.ws.length : Int) - 1) = ((s.ws.length - 1 : Nat) : Int) by omega] at S
  refine k_read (listed' := #[true, true, true, true, true, true, true, true, true, true, true, false, false]) 10 S rfl rfl rfl rfl (by kernel_rfl) rfl (fun _ d _ _ _ h => by cases d <;> exact h) (fun w hW => have M := M.grow hW; y_indexR (e := 32) (sz := 1) S (by kernel_rfl) rfl (M.secRow (s := s) (.tail _ (.tail _ (.tail _ (List.mem_append_left _ (secsE_ent hsm))))) hlw) rfl (by first | omega | (simp; done) | (simp; omega))) ?_; clear S a; intro a S
  try simp only [Int.toNat_natCast, Nat.mul_one, Nat.zero_add] at S
  refine k_read (listed' := #[true, true, true, true, true, true, true, true, true, true, true, true, false]) 11 S rfl rfl rfl rfl (by kernel_rfl) rfl (fun _ d _ _ _ h => by cases d <;> exact h) (fun w hW => have M := M.grow hW; y_load S (by kernel_rfl) rfl ((M.secRow (s := s) (.tail _ (.tail _ (.tail _ (List.mem_append_left _ (secsE_ent hsm))))) hlw).at_.one (s.ws.length - 1) (by rw [List.getElem?_map, hr]; rfl))) ?_; clear S a; intro a S
  refine k_one (listed' := #[true, true, true, true, true, true, true, true, true, true, true, true, true]) 12 rfl (by kernel_rfl) rfl ?_
  refine st_copy (e := 5) (us := bcells r.bs) S M 1 rfl rfl (by kernel_rfl) rfl rfl rfl (M.readB (r := r) (.tail _ (.tail _ (.tail _ (List.mem_append_left _ (secsE_ws hsm hrm))))) (by omega)) (List.take_of_length_le (by rw [bcells_length]; omega)) (allOne_bcells _) (by rw [dcells_len hdl, bcells_length]; omega) ?_; clear S M a; intro a w5 S M
  simp only [List.set_cons_zero, List.set_cons_succ] at M
  refine wpList_nil ?_; refine then_normal ?_; refine ⟨fun h => absurd h (by decide), ?_⟩
  refine k_end (by kernel_rfl) ?_
  replace S := S.sub [(0, _), (15, _), (17, _), (3, _), (4, _)] rfl
  refine block_normal ?_
  refine then_normal ?_
  skip
  rw [dcells_put hdl hk34 hr64] at M
  have hnd2 : (vs ++ [q]).Nodup := by
    rw [List.nodup_append]
    exact ⟨hnd, by simp, fun x hx y hy e => hnv (by simp at hy; rw [← hy, ← e]; exact hx)⟩
  have hvs2 : ∀ p ∈ vs ++ [q], p ∈ D.ml := fun p hp => by
    rcases List.mem_append.1 hp with h | h
    · exact hvs p h
    · obtain rfl := List.mem_singleton.1 h; exact hq
  have hlt := nodup_lenJ hnd2 hvs2
  rw [List.length_append] at hlt
  refine ⟨D.ml.length - (vs ++ [q]).length, by rw [List.length_append]; simp at hlt ⊢; omega, vs ++ [q], _, hvs2, hnd2, rfl, dset_len hdl hk34 hr64, fun j => ?_, S.sub _ rfl, M⟩
  rw [dset_at hdl hk34 hr64, hdat j]
  by_cases e : j = k
  · subst e
    rw [if_pos rfl, if_pos (by simp [hqk]), hget]
  · rw [if_neg e]
    have : (j : Int) ∈ (vs ++ [q]).map (·.1) ↔ (j : Int) ∈ vs.map (·.1) := by
      simp only [List.map_append, List.map_cons, List.map_nil, List.mem_append, List.mem_singleton, hqk]
      exact ⟨fun h => h.resolve_right (by omega), .inl⟩
    simp only [this]

end Go.Proofs.Ytafejnbfgkkjkaa
