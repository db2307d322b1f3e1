/-
  Package recover: what a record's kind does.
-/
import Derived.Test.YtodfphphidhjbaaDel
import Derived.Test.YtodfphphidhjbaaJoin
namespace Go.Proofs.Ytodfphphidhjbaa
open Go.RowKit Go.Sort

theorem St.split {s : St} (dv : Value) : s.cellsL dv = s.pre ++ (hcells s.home ++ [dv, .int .i64 s.app]) := rfl
theorem St.setD {s : St} (h : s.ok) (dv v : Value) : (s.cellsL dv).set 271 v = s.cellsL v := by
  have e : ∀ u, s.cellsL u = (s.pre ++ hcells s.home) ++ [u, .int .i64 s.app] := fun u => by rw [St.split, List.append_assoc]
  have hl : (s.pre ++ hcells s.home).length = 271 := by rw [List.length_append, St.pre_len h, h.hl]
  rw [e, e, List.set_append_right _ _ (by omega), hl]; rfl
theorem St.setO {s : St} (h : s.ok) (dv : Value) (z : Int) : (s.cellsL dv).set 2 (.int .i64 z) = ({ s with owned := z } : St).cellsL dv := by
  unfold St.cellsL St.pre
  simp only [List.append_assoc]
  rw [List.set_append_right _ _ (by rw [h.l2]; omega), h.l2]; rfl
theorem St.getO {s : St} (h : s.ok) (dv : Value) : (s.cellsL dv).toArray[2]? = some (.int .i64 s.owned) := by
  rw [List.getElem?_toArray]; unfold St.cellsL St.pre
  simp only [List.append_assoc]
  rw [List.getElem?_append_right (by rw [h.l2]; omega), h.l2]; rfl
/-- cells of what is in doubt, whose writes lie in rows of one's own -/
def PrBk (cs : List Value) (ps : Pl) (es : List Ent) : Prop :=
  cs.length = ps.length * 6 ∧ allOne cs = true ∧ ∀ (i : Nat) (q : Pr × List Wr), ps[i]? = some q → ∃ ad cp lo hi, (cs.drop (i * 6)).take 6 = q.1.cellsL (.slice ad q.2.length cp) ∧ rowE lo hi 49 9 (.slice ad q.2.length cp) q.2.length (wcells q.2) ∈ es ∧ q.2.length ≤ 1000000
theorem PrBk.nil : PrBk [] [] [] := ⟨rfl, rfl, fun i q hi => by simp at hi⟩
theorem allOne_take {l : List Value} (h : allOne l = true) (k : Nat) : allOne (l.take k) = true ∧ allOne (l.drop k) = true := by
  rw [← List.take_append_drop k l, allOne_append, Bool.and_eq_true] at h; exact h
theorem PrBk.more {cs : List Value} {ps : Pl} {es : List Ent} {q : Pr × List Wr} {ad : Option Addr} {cp lo hi : Nat} (h : PrBk cs ps es) (hl : q.2.length ≤ 1000000) :
    PrBk (cs ++ q.1.cellsL (.slice ad q.2.length cp)) (ps ++ [q]) (rowE lo hi 49 9 (.slice ad q.2.length cp) q.2.length (wcells q.2) :: es) := by
  have h0 := h.1
  refine ⟨by rw [List.length_append, h0, List.length_append]; simp; omega, by rw [allOne_append, h.2.1]; rfl, fun i x hx => ?_⟩
  rcases Nat.lt_or_ge i ps.length with h1 | h1
  · rw [List.getElem?_append_left h1] at hx
    obtain ⟨a', c', lo', hi', h2, h3, h4⟩ := h.2.2 i x hx
    refine ⟨a', c', lo', hi', ?_, List.mem_cons_of_mem _ h3, h4⟩
    rw [← h2, List.drop_append_of_le_length (by omega), List.take_append_of_le_length (by rw [List.length_drop]; omega)]
  · have : i = ps.length := by have := (List.getElem?_eq_some_iff.1 hx).1; simp at this; omega
    subst this
    rw [List.getElem?_append_right (Nat.le_refl _)] at hx
    simp only [Nat.sub_self, List.getElem?_cons_zero, Option.some.injEq] at hx
    subst hx
    refine ⟨ad, cp, lo, hi, ?_, List.mem_cons_self .., hl⟩
    rw [← h0, List.drop_left]; rfl
theorem PrBk.set {cs : List Value} {ps : Pl} {es : List Ent} {q : Pr × List Wr} {ad : Option Addr} {cp lo hi k : Nat} (h : PrBk cs ps es) (hk : k < ps.length) (hl : q.2.length ≤ 1000000) :
    PrBk (cs.take (k * 6) ++ q.1.cellsL (.slice ad q.2.length cp) ++ cs.drop ((k + 1) * 6)) (ps.set k q) (rowE lo hi 49 9 (.slice ad q.2.length cp) q.2.length (wcells q.2) :: es) := by
  have h0 := h.1
  have hlt : (cs.take (k * 6)).length = k * 6 := by rw [List.length_take]; omega
  refine ⟨?_, ?_, fun i x hx => ?_⟩
  · simp only [List.length_append, hlt, List.length_cons, List.length_nil, List.length_drop, List.length_set]; omega
  · rw [allOne_append, allOne_append, (allOne_take h.2.1 _).1, (allOne_take h.2.1 _).2]; rfl
  · rw [List.getElem?_set] at hx
    by_cases hik : k = i
    · subst hik
      rw [if_pos rfl, if_pos hk] at hx
      obtain rfl := Option.some.inj hx
      refine ⟨ad, cp, lo, hi, ?_, List.mem_cons_self .., hl⟩
      rw [List.append_assoc, List.drop_append_of_le_length (by omega), List.drop_of_length_le (by omega)]; rfl
    · rw [if_neg hik] at hx
      obtain ⟨a', c', lo', hi', h2, h3, h4⟩ := h.2.2 i x hx
      have hi2 := (List.getElem?_eq_some_iff.1 hx).1
      refine ⟨a', c', lo', hi', ?_, List.mem_cons_of_mem _ h3, h4⟩
      rw [← h2]
      rcases Nat.lt_or_gt_of_ne hik with hlt2 | hlt2
      · have hl2 : (cs.take (k * 6) ++ q.1.cellsL (.slice ad q.2.length cp)).length = (k + 1) * 6 := by rw [List.length_append, hlt]; simp; omega
        rw [List.drop_append, hl2, List.drop_of_length_le (by omega), List.nil_append, List.drop_drop, show (k + 1) * 6 + (i * 6 - (k + 1) * 6) = i * 6 by omega]
      · rw [List.append_assoc, List.drop_append_of_le_length (by omega), List.take_append_of_le_length (by rw [List.length_drop]; omega), List.drop_take, List.take_take, Nat.min_eq_left (by omega)]
theorem PrBk.del {cs : List Value} {ps : Pl} {es : List Ent} {k : Nat} (h : PrBk cs ps es) (hk : k < ps.length) : PrBk (cs.take (k * 6) ++ cs.drop ((k + 1) * 6)) (ps.eraseIdx k) es := by
  have h0 := h.1
  have hlt : (cs.take (k * 6)).length = k * 6 := by rw [List.length_take]; omega
  refine ⟨?_, ?_, fun i x hx => ?_⟩
  · rw [List.length_append, hlt, List.length_drop, List.length_eraseIdx, if_pos hk]; omega
  · rw [allOne_append, (allOne_take h.2.1 _).1, (allOne_take h.2.1 _).2]; rfl
  · rw [List.getElem?_eraseIdx] at hx
    split at hx
    · rename_i hik
      obtain ⟨a', c', lo', hi', h2, h3, h4⟩ := h.2.2 i x hx
      refine ⟨a', c', lo', hi', ?_, h3, h4⟩
      rw [← h2, List.drop_append_of_le_length (by omega), List.take_append_of_le_length (by rw [List.length_drop]; omega), List.drop_take, List.take_take, Nat.min_eq_left (by omega)]
    · rename_i hik
      obtain ⟨a', c', lo', hi', h2, h3, h4⟩ := h.2.2 (i + 1) x hx
      refine ⟨a', c', lo', hi', ?_, h3, h4⟩
      rw [← h2, List.drop_append, hlt, List.drop_of_length_le (by omega), List.nil_append, List.drop_drop]
      congr 2; omega
theorem PrBk.rows {cs : List Value} {ps : Pl} {es H : List Ent} {w0 w : World} (h : PrBk cs ps es) (M : Mem w0 w H) (h2 : ∀ e ∈ es, e ∈ H) : ∀ (i : Nat) (q : Pr × List Wr), ps[i]? = some q → ∃ ad cp, (cs.drop (i * 6)).take 6 = q.1.cellsL (.slice ad q.2.length cp) ∧ Ws w0.heap.size w.heap.size w (.slice ad q.2.length cp) q.2 ∧ q.2.length ≤ 1000000 := fun i q hq => by
  obtain ⟨ad, cp, lo', hi', e, hmem, hx⟩ := h.2.2 i q hq
  have r2 := M.ok _ (h2 _ hmem) w (fun _ _ _ => rfl)
  have f2 := M.fits _ (h2 _ hmem)
  exact ⟨ad, cp, e, (Rd.of_row r2.1 r2.2 (by unfold maxLen; omega)).wide f2.1 f2.2, hx⟩
theorem PrBk.prs {cs : List Value} {ps : Pl} {es H : List Ent} {w0 w : World} {v : Value} {lo hi : Nat} (h : PrBk cs ps es) (M : Mem w0 w H) (h1 : rowE lo hi 52 6 v ps.length cs ∈ H) (h2 : ∀ e ∈ es, e ∈ H) (hm : ps.length ≤ maxLen) : PrsC cs w0.heap.size w.heap.size w v ps := by
  have r1 := M.ok _ h1 w (fun _ _ _ => rfl)
  have f1 := M.fits _ h1
  refine ⟨(Rd.of_row r1.1 r1.2 hm).wide f1.1 f1.2, fun i q hq => ?_⟩
  obtain ⟨ad, cp, e, hw, -⟩ := h.rows M h2 i q hq
  exact ⟨_, e, hw⟩

theorem rowW {w0 w : World} {H : List Ent} {lo hi : Nat} {v : Value} {x : List Wr} (M : Mem w0 w H) (h : rowE lo hi 49 9 v x.length (wcells x) ∈ H) (hl : x.length ≤ 1000000) : Ws 0 w.heap.size w v x := by
  have r := M.ok _ h w (fun _ _ _ => rfl)
  exact (Rd.of_row r.1 r.2 (by unfold maxLen; omega)).wide (Nat.zero_le _) (M.fits _ h).2
/-- a state that records are applied to, in memory of one's own -/
def WkM (wc w : World) (H : List Ent) (b : Nat) (s : St) (ps : Pl) : Prop := ∃ dv lo hi cs es, Mem wc w (.blk b (s.cellsL dv).toArray 55 :: rowE lo hi 52 6 dv ps.length cs :: (H ++ es)) ∧ PrBk cs ps es
def methSt (s : St) (ps : Pl) (r : Rc) (x : List Wr) : St := { s with owned := ownP s.owned ps r, home := onF s.home (stepP ps r x).2 }
theorem methSt_ok {s : St} (h : s.ok) (ps : Pl) (r : Rc) (x : List Wr) : (methSt s ps r x).ok := ⟨h.l2, h.l12, by show (onF _ _).length = 32; rw [onF_length]; exact h.lh, h.o2, h.o12⟩
def MethPost (wc : World) (H : List Ent) (b : Nat) (s : St) (ps : Pl) (r : Rc) (x : List Wr) (e : Ending) (w' : World) : Prop := e = .returned (.tuple #[]) ∧ WkM wc w' H b (methSt s ps r x) (stepP ps r x).1

theorem local_any {wc w : World} {H : List Ent} {b : Nat} {s : St} {ps : Pl} (hs : s.ok) (W : WkM wc w H b s ps) (r : Rc) (va : Option Addr) (vc : Nat) (x : List Wr) (hv : Ws 0 wc.heap.size wc (.slice va x.length vc) x) (hk : r.kind = 1) :
    Calls Try.prog 10 #[.pointer (some ⟨b, 0, none⟩), .agg (r.cells (.slice va x.length vc))] w (MethPost wc H b s ps r x) := by
  obtain ⟨dv, lo, hi, cs, es, M, hBk⟩ := W
  have hon : (hcells (onF s.home x)).length = 256 := by rw [hcells_length, onF_length, hs.lh]
  refine calls_enter Try.func10 rfl 16 rfl rfl ?_; intro a S
  refine wp_seq ?_
  skip
  refine wp_region_lit ?_
  refine st_box S M rfl rfl rfl #[_, _, _, _, _, _, _, _, _, _, _, _] rfl ?_; clear S M a; intro a w1 b1 S M hB
  refine nxC ?_
  refine wp_regionK [12] #[false, false, false, false, false, false, false, false, false, false, false, false, false] rfl M (by kernel_rfl) ?_; clear M; intro w2 M
  refine k_pure (listed' := #[true, false, false, false, false, false, false, false, false, false, false, false, false]) 0 S rfl rfl rfl rfl (by kernel_rfl) rfl (fun _ d _ _ _ h => by cases d <;> exact h) (fun w => y_move S rfl) ?_; clear S a; intro a S
  refine k_pure (listed' := #[true, true, false, false, false, false, false, false, false, false, false, false, false]) 1 S rfl rfl rfl rfl (by kernel_rfl) rfl (fun _ d _ _ _ h => by cases d <;> exact h) (fun w => y_move S rfl) ?_; clear S a; intro a S
  refine k_pure (listed' := #[true, true, true, false, false, false, false, false, false, false, false, false, false]) 2 S rfl rfl rfl rfl (by kernel_rfl) rfl (fun _ d _ _ _ h => by cases d <;> exact h) (fun w => y_nilCheck S rfl) ?_; clear S a; intro a S
  refine k_pure (listed' := #[true, true, true, true, false, false, false, false, false, false, false, false, false]) 3 S rfl rfl rfl rfl (by kernel_rfl) rfl (fun _ d _ _ _ h => by cases d <;> exact h) (fun w => y_fieldAddr (k := 0) S (by kernel_rfl) rfl) ?_; clear S a; intro a S
  refine k_pure (listed' := #[true, true, true, true, true, false, false, false, false, false, false, false, false]) 4 S rfl rfl rfl rfl (by kernel_rfl) rfl (fun _ d _ _ _ h => by cases d <;> exact h) (fun w => y_fieldAddr (k := 15) S (by kernel_rfl) rfl) ?_; clear S a; intro a S
  refine k_read (listed' := #[true, true, true, true, true, true, false, false, false, false, false, false, false]) 5 S rfl rfl rfl rfl (by kernel_rfl) rfl (fun _ d _ _ _ h => by cases d <;> exact h) (fun w hW => have M := M.grow hW; y_loadAgg (k := 256) S (by kernel_rfl) rfl (by first | exact St.pre_len hs | exact hs.hl | exact hon) (M.cellsMid 1 rfl (by first | exact St.pre_len hs | exact hs.hl | exact hon))) ?_; clear S a; intro a S
  refine k_pure (listed' := #[true, true, true, true, true, true, true, false, false, false, false, false, false]) 6 S rfl rfl rfl rfl (by kernel_rfl) rfl (fun _ d _ _ _ h => by cases d <;> exact h) (fun w => y_fieldAddr (k := 5) S (by kernel_rfl) rfl) ?_; clear S a; intro a S
  refine k_read (listed' := #[true, true, true, true, true, true, true, true, false, false, false, false, false]) 7 S rfl rfl rfl rfl (by kernel_rfl) rfl (fun _ d _ _ _ h => by cases d <;> exact h) (fun w hW => have M := M.grow hW; y_load S (by kernel_rfl) rfl (M.cell 0 rfl rfl)) ?_; clear S a; intro a S
  refine k_one (listed' := #[true, true, true, true, true, true, true, true, true, false, false, false, false]) 8 rfl (by kernel_rfl) rfl ?_
  refine st_call (xs := [(Operand.tmp 9), (Operand.tmp 11)]) S (enters_of Try.func16 (by decide) rfl) rfl rfl rfl (on_any s.home _ x _ hs.lh (M.argW hv)) ?_
  rintro _ w3 ⟨rfl, hK⟩; refine ⟨_, rfl, ?_⟩; clear S a; intro a S; replace M := M.grow hK
  refine wpList_nil ?_; refine then_normal ?_; refine ⟨fun _ => hK, ?_⟩
  refine k_pure (listed' := #[true, true, true, true, true, true, true, true, true, true, false, false, false]) 9 S rfl rfl rfl rfl (by kernel_rfl) rfl (fun _ d _ _ _ h => by cases d <;> exact h) (fun w => y_nilCheck S rfl) ?_; clear S a; intro a S
  refine k_pure (listed' := #[true, true, true, true, true, true, true, true, true, true, true, false, false]) 10 S rfl rfl rfl rfl (by kernel_rfl) rfl (fun _ d _ _ _ h => by cases d <;> exact h) (fun w => y_fieldAddr (k := 0) S (by kernel_rfl) rfl) ?_; clear S a; intro a S
  refine k_pure (listed' := #[true, true, true, true, true, true, true, true, true, true, true, true, false]) 11 S rfl rfl rfl rfl (by kernel_rfl) rfl (fun _ d _ _ _ h => by cases d <;> exact h) (fun w => y_fieldAddr (k := 15) S (by kernel_rfl) rfl) ?_; clear S a; intro a S
  refine k_one (listed' := #[true, true, true, true, true, true, true, true, true, true, true, true, true]) 12 rfl (by kernel_rfl) rfl ?_
  refine st_storeMid (sz := 256) S M 1 rfl (by kernel_rfl) rfl rfl rfl (by first | exact St.pre_len hs | exact hs.hl | exact hon) (by exact allOne_hcells _) rfl (by first | exact St.pre_len hs | exact hs.hl | exact hon) (by first | exact St.pre_len hs | exact hs.hl | exact hon) ?_; clear M; intro w4 M
  simp only [List.set_cons_zero, List.set_cons_succ] at M
  refine wpList_nil ?_; refine then_normal ?_; refine ⟨fun h => absurd h (by decide), ?_⟩
  refine k_end (by kernel_rfl) ?_
  refine end_noneN S rfl ?_
  refine ⟨rfl, dv, lo, hi, cs, es, ?_, by unfold stepP; rw [if_pos hk]; exact hBk⟩
  have e : methSt s ps r x = { s with home := onF s.home x } := by unfold methSt ownP stepP; rw [if_neg (by omega), if_pos hk]
  rw [e]
  unfold stepP; rw [if_pos hk]
  exact M.drop 0

theorem sub_blk {a b : Ent} {es H : List Ent} : ∀ e ∈ es, e ∈ a :: b :: (es ++ H) := fun e he => by simp [he]
theorem step2_some {ps : Pl} {r : Rc} {x : List Wr} {k : Nat} (hk : r.kind = 2) (hf : findP r.name ps = some k) : stepP ps r x = (ps.set k (prOf r, x), []) := by
  unfold stepP; rw [if_neg (by omega), if_pos hk, hf]
theorem step2_none {ps : Pl} {r : Rc} {x : List Wr} (hk : r.kind = 2) (hf : findP r.name ps = none) : stepP ps r x = (ps ++ [(prOf r, x)], []) := by
  unfold stepP; rw [if_neg (by omega), if_pos hk, hf]
theorem meth2 {s : St} {ps : Pl} {r : Rc} {x : List Wr} (hk : r.kind = 2) (h : (stepP ps r x).2 = []) : methSt s ps r x = s := by
  unfold methSt ownP; rw [if_neg (by omega), h]; rfl
theorem set_row {k : Nat} {cs more us : List Value} (hl : (k + 1) * 6 ≤ cs.length) (hu : us.length = 6) : putL (cs ++ more) (k * 6) us = (cs.take (k * 6) ++ us ++ cs.drop ((k + 1) * 6)) ++ more := by
  rw [putL_eq _ _ _ (by rw [List.length_append]; omega), List.take_append_of_le_length (by omega), hu, List.drop_append_of_le_length (by omega), show k * 6 + 6 = (k + 1) * 6 by omega]
  simp only [List.append_assoc]
set_option maxHeartbeats 1000000 in
theorem prepared_any {wc w : World} {H : List Ent} {b : Nat} {s : St} {ps : Pl} (hs : s.ok) (W : WkM wc w H b s ps) (hps : ps.length ≤ 10000) (r : Rc) (va : Option Addr) (vc : Nat) (x : List Wr) (hv : Ws 0 wc.heap.size wc (.slice va x.length vc) x) (hx : x.length ≤ 1000000) (hk : r.kind = 2) :
    Calls Try.prog 11 #[.pointer (some ⟨b, 0, none⟩), .agg (r.cells (.slice va x.length vc))] w (MethPost wc H b s ps r x) := by
  obtain ⟨dv, lo, hi, cs, es, M, hBk⟩ := W
  refine calls_enter Try.func11 rfl 48 rfl rfl ?_; intro a S
  refine wp_seq ?_
  skip
  refine wp_region_lit ?_
  refine st_box S M rfl rfl rfl #[_, _, _, _, _, _, _, _, _, _, _, _] rfl ?_; clear S M a; intro a w1 bX S M hB
  refine nxA ?_
  refine st_go [2] S rfl (by kernel_rfl) ?_; clear S a; intro a S
  refine st_y S rfl rfl rfl (y_loadAgg (cs := [_, _, _]) S (by kernel_rfl) rfl rfl (M.cellsAt (k := 3) 0 rfl rfl)) ?_; clear S a; intro a S
  refine st_run [6, 1, 7, 1, 8, 1] S M rfl (by kernel_rfl) ?_; clear S a; intro a S
  refine st_y S rfl rfl rfl (y_build (ps := [(0, (Operand.tmp 8)), (1, (Operand.tmp 10)), (2, (Operand.tmp 12)), (3, (Operand.tmp 14))]) (pl := [(0, 3), (3, 1), (4, 1), (5, 1)]) (z := [.int .i64 0, .int .i64 0, .int .i64 0, .slice none 0 0, .int .i64 0, .int .i64 0]) (cs := [_, _, _, _, _, _]) S (by kernel_rfl) rfl (rfl)) ?_; clear S a; intro a S
  refine st_call (xs := [(Operand.tmp 15)]) S (enters_of Try.func15 (by decide) rfl) rfl rfl rfl (alone_any (prOf r) va vc x _ (M.argW hv) hx) ?_
  rintro _ w2 ⟨ad, cp, rfl, hF⟩; refine ⟨_, rfl, ?_⟩; clear S a; intro a S
  obtain ⟨lo1, hi1, -, M⟩ := M.pushFresh hF
  refine st_alloc S M rfl rfl #[.int .i64 0, .int .i64 0, .int .i64 0, .slice none 0 0, .int .i64 0, .int .i64 0] (by kernel_rfl) ?_; clear S M a; intro a w3 bP S M hB
  refine st_store (sz := 6) (us := [_, _, _, _, _, _]) S M 0 rfl (by kernel_rfl) rfl rfl rfl rfl rfl rfl (by first | decide | (simp; done) | (simp; omega)) ?_; clear M; intro w4 M
  simp only [putL, List.set_cons_zero, List.set_cons_succ, Nat.reduceAdd] at M
  refine nxC ?_
  refine wp_seq ?_
  refine wp_seq ?_
  refine wp_regionK [] #[false, false, false, false, false, false, false, false, false, false, false, false] rfl M (by kernel_rfl) ?_; clear M; intro w5 M
  refine k_pure (listed' := #[true, false, false, false, false, false, false, false, false, false, false, false]) 0 S rfl rfl rfl rfl (by kernel_rfl) rfl (fun _ d _ _ _ h => by cases d <;> exact h) (fun w => y_move S rfl) ?_; clear S a; intro a S
  refine k_pure (listed' := #[true, true, false, false, false, false, false, false, false, false, false, false]) 1 S rfl rfl rfl rfl (by kernel_rfl) rfl (fun _ d _ _ _ h => by cases d <;> exact h) (fun w => y_nilCheck S rfl) ?_; clear S a; intro a S
  refine k_pure (listed' := #[true, true, true, false, false, false, false, false, false, false, false, false]) 2 S rfl rfl rfl rfl (by kernel_rfl) rfl (fun _ d _ _ _ h => by cases d <;> exact h) (fun w => y_fieldAddr (k := 0) S (by kernel_rfl) rfl) ?_; clear S a; intro a S
  refine k_read (listed' := #[true, true, true, true, false, false, false, false, false, false, false, false]) 3 S rfl rfl rfl rfl (by kernel_rfl) rfl (fun _ d _ _ _ h => by cases d <;> exact h) (fun w hW => have M := M.grow hW; y_loadAgg (k := 273) (cs := _) S (by kernel_rfl) rfl (by first | exact St.len hs _ | exact St.pre_len hs | exact hs.hl) (M.cellsAt 3 rfl cutL_all)) ?_; clear S a; intro a S
  refine k_pure (listed' := #[true, true, true, true, true, false, false, false, false, false, false, false]) 4 S rfl rfl rfl rfl (by kernel_rfl) rfl (fun _ d _ _ _ h => by cases d <;> exact h) (fun w => y_fieldAddr (k := 1) S (by kernel_rfl) rfl) ?_; clear S a; intro a S
  refine k_read (listed' := #[true, true, true, true, true, true, false, false, false, false, false, false]) 5 S rfl rfl rfl rfl (by kernel_rfl) rfl (fun _ d _ _ _ h => by cases d <;> exact h) (fun w hW => have M := M.grow hW; y_loadAgg (cs := [_, _, _]) S (by kernel_rfl) rfl rfl (M.cellsAt (k := 3) 2 rfl rfl)) ?_; clear S a; intro a S
  refine k_one (listed' := #[true, true, true, true, true, true, true, false, false, false, false, false]) 6 rfl (by kernel_rfl) rfl ?_
  refine st_call (xs := [(Operand.tmp 21), (Operand.tmp 23)]) S (enters_of Try.func17 (by decide) rfl) rfl rfl rfl (find_any s hs _ cs ps r.name _ ((hBk.prs M (List.mem_of_getElem? (show _[4]? = _ from rfl)) (fun e he => by simp [he]) (by unfold maxLen; omega)).wide (Nat.zero_le _) (Nat.le_refl _))) ?_
  rintro _ w6 ⟨k, y, rfl, hK, hy⟩; refine ⟨_, rfl, ?_⟩; clear S a; intro a S; replace M := M.grow hK
  refine wpList_nil ?_; refine then_normal ?_; refine ⟨fun _ => hK, ?_⟩
  refine k_pure (listed' := #[true, true, true, true, true, true, true, true, false, false, false, false]) 7 S rfl rfl rfl rfl (by kernel_rfl) rfl (fun _ d _ _ _ h => by cases d <;> exact h) (fun w => y_move S rfl) ?_; clear S a; intro a S
  refine k_pure (listed' := #[true, true, true, true, true, true, true, true, true, false, false, false]) 8 S rfl rfl rfl rfl (by kernel_rfl) rfl (fun _ d _ _ _ h => by cases d <;> exact h) (fun w => y_extract S rfl rfl) ?_; clear S a; intro a S
  refine k_pure (listed' := #[true, true, true, true, true, true, true, true, true, true, false, false]) 9 S rfl rfl rfl rfl (by kernel_rfl) rfl (fun _ d _ _ _ h => by cases d <;> exact h) (fun w => y_extract S rfl rfl) ?_; clear S a; intro a S
  refine k_pure (listed' := #[true, true, true, true, true, true, true, true, true, true, true, false]) 10 S rfl rfl rfl rfl (by kernel_rfl) rfl (fun _ d _ _ _ h => by cases d <;> exact h) (fun w => y_assign S rfl) ?_; clear S a; intro a S
  refine k_pure (listed' := #[true, true, true, true, true, true, true, true, true, true, true, true]) 11 S rfl rfl rfl rfl (by kernel_rfl) rfl (fun _ d _ _ _ h => by cases d <;> exact h) (fun w => y_assign S rfl) ?_; clear S a; intro a S
  refine k_end (by kernel_rfl) ?_
  replace S := S.sub [(0, _), (1, _), (3, _), (4, _), (5, _), (6, _)] rfl
  refine nxE ?_
  refine st_go [1] S rfl (by kernel_rfl) ?_; clear S a; intro a S
  refine nxC ?_
  refine st_split (t := 27) S rfl ?_ ?_
  · clear S; intro h27 S
    refine st_condT S rfl ?_
    refine wp_seq ?_
    have hf : findP r.name ps = some k := by
      rcases hy with ⟨-, h⟩ | ⟨h, -⟩
      · exact h
      · exfalso; rw [h] at h27; cases h27
    have hkl : k < ps.length := by obtain ⟨q, hq⟩ := findP_get hf; exact (List.getElem?_eq_some_iff.1 hq).1
    replace M := M.front 4 rfl
    simp only [List.eraseIdx_cons_succ, List.eraseIdx_cons_zero] at M
    obtain ⟨g, cap, more, hvE, hc1, hc2, hc3, M1⟩ := M.ofRow (by omega)
    subst hvE
    clear M
    have M := M1
    clear M1
    refine wp_regionK [8] #[false, false, false, false, false, false, false, false, false] rfl M (by kernel_rfl) ?_; clear M; intro w7 M
    refine k_pure (listed' := #[true, false, false, false, false, false, false, false, false]) 0 S rfl rfl rfl rfl (by kernel_rfl) rfl (fun _ d _ _ _ h => by cases d <;> exact h) (fun w => y_move S rfl) ?_; clear S a; intro a S
    refine k_pure (listed' := #[true, true, false, false, false, false, false, false, false]) 1 S rfl rfl rfl rfl (by kernel_rfl) rfl (fun _ d _ _ _ h => by cases d <;> exact h) (fun w => y_nilCheck S rfl) ?_; clear S a; intro a S
    refine k_pure (listed' := #[true, true, true, false, false, false, false, false, false]) 2 S rfl rfl rfl rfl (by kernel_rfl) rfl (fun _ d _ _ _ h => by cases d <;> exact h) (fun w => y_fieldAddr (k := 0) S (by kernel_rfl) rfl) ?_; clear S a; intro a S
    refine k_pure (listed' := #[true, true, true, true, false, false, false, false, false]) 3 S rfl rfl rfl rfl (by kernel_rfl) rfl (fun _ d _ _ _ h => by cases d <;> exact h) (fun w => y_fieldAddr (k := 271) S (by kernel_rfl) rfl) ?_; clear S a; intro a S
    refine k_read (listed' := #[true, true, true, true, true, false, false, false, false]) 4 S rfl rfl rfl rfl (by kernel_rfl) rfl (fun _ d _ _ _ h => by cases d <;> exact h) (fun w hW => have M := M.grow hW; y_load S (by kernel_rfl) rfl (M.cell 4 rfl (St.doubt hs _))) ?_; clear S a; intro a S
    refine k_pure (listed' := #[true, true, true, true, true, true, false, false, false]) 5 S rfl rfl rfl rfl (by kernel_rfl) rfl (fun _ d _ _ _ h => by cases d <;> exact h) (fun w => y_move S rfl) ?_; clear S a; intro a S
    refine k_read (listed' := #[true, true, true, true, true, true, true, false, false]) 6 S rfl rfl rfl rfl (by kernel_rfl) rfl (fun _ d _ _ _ h => by cases d <;> exact h) (fun w hW => have M := M.grow hW; y_loadAgg (cs := [_, _, _, _, _, _]) S (by kernel_rfl) rfl rfl (M.cellsAt (k := 6) 1 rfl rfl)) ?_; clear S a; intro a S
    refine k_pure (listed' := #[true, true, true, true, true, true, true, true, false]) 7 S rfl rfl rfl rfl (by kernel_rfl) rfl (fun _ d _ _ _ h => by cases d <;> exact h) (fun w => y_indexS (e := 52) (sz := 6) S (by kernel_rfl) rfl rfl (by first | omega | (simp; done) | (simp; omega))) ?_; clear S a; intro a S
    try simp only [Int.toNat_natCast, Nat.mul_one, Nat.zero_add] at S
    refine k_one (listed' := #[true, true, true, true, true, true, true, true, true]) 8 rfl (by kernel_rfl) rfl ?_
    refine st_store (o := k * 6) (l := cs ++ more) (sz := 6) (us := (prOf r).cellsL (.slice ad x.length cp)) S M 0 rfl (by kernel_rfl) rfl rfl rfl rfl rfl rfl (by rw [List.length_append, hBk.1]; show k * 6 + 6 ≤ _; omega) ?_; clear M; intro wz M
    simp only [List.set_cons_zero] at M
    refine wpList_nil ?_; refine then_normal ?_; refine ⟨fun h => absurd h (by decide), ?_⟩
    refine k_end (by kernel_rfl) ?_
    refine then_normal ?_
    refine wp_ret ?_
    refine then_ret ?_
    refine end_none S rfl ?_
    replace M := M.drop 1
    simp only [List.eraseIdx_cons_succ, List.eraseIdx_cons_zero] at M
    replace M := M.drop 2
    simp only [List.eraseIdx_cons_succ, List.eraseIdx_cons_zero] at M
    rw [set_row (by rw [hBk.1]; omega) rfl] at M
    have hBk' := hBk.set (q := (prOf r, x)) (ad := ad) (cp := cp) (lo := lo1) (hi := hi1) hkl hx
    have hl := hBk'.1
    rw [List.length_set] at hl
    have hl0 := hBk.1
    simp only at hl
    replace M := M.toRow (sz := 6) (m := ps.length) (cap := cap) (xs := cs.take (k * 6) ++ (prOf r).cellsL (.slice ad x.length cp) ++ cs.drop ((k + 1) * 6)) 0 rfl hl hc1 hc2 (by rw [List.size_toArray, List.length_append, hl, ← hc3, List.length_append, hl0]) (by rw [List.toList_toArray, ← hl]; exact List.take_left)
    refine ⟨rfl, .slice (some ⟨g, 0, none⟩) ps.length cap, g, g + 1, cs.take (k * 6) ++ (prOf r).cellsL (.slice ad x.length cp) ++ cs.drop ((k + 1) * 6), rowE lo1 hi1 49 9 (.slice ad x.length cp) x.length (wcells x) :: es, ?_, by rw [step2_some hk hf]; exact hBk'⟩
    rw [meth2 hk (by rw [step2_some hk hf]), step2_some hk hf, List.length_set]
    exact (M.front 2 rfl).perm ((List.perm_middle.symm.cons _).cons _)
  clear S; intro h27 S
  refine st_condF S rfl ?_
  refine wp_skip ?_
  refine then_normal ?_
  have hf : findP r.name ps = none := by
    rcases hy with ⟨h, -⟩ | ⟨-, -, h⟩
    · exfalso; rw [h] at h27; cases h27
    · exact h
  refine wp_regionK [8, 12] #[false, false, false, false, false, false, false, false, false, false, false, false, false] rfl M (by kernel_rfl) ?_; clear M; intro w8 M
  refine k_pure (listed' := #[true, false, false, false, false, false, false, false, false, false, false, false, false]) 0 S rfl rfl rfl rfl (by kernel_rfl) rfl (fun _ d _ _ _ h => by cases d <;> exact h) (fun w => y_move S rfl) ?_; clear S a; intro a S
  refine k_pure (listed' := #[true, true, false, false, false, false, false, false, false, false, false, false, false]) 1 S rfl rfl rfl rfl (by kernel_rfl) rfl (fun _ d _ _ _ h => by cases d <;> exact h) (fun w => y_move S rfl) ?_; clear S a; intro a S
  refine k_pure (listed' := #[true, true, true, false, false, false, false, false, false, false, false, false, false]) 2 S rfl rfl rfl rfl (by kernel_rfl) rfl (fun _ d _ _ _ h => by cases d <;> exact h) (fun w => y_nilCheck S rfl) ?_; clear S a; intro a S
  refine k_pure (listed' := #[true, true, true, true, false, false, false, false, false, false, false, false, false]) 3 S rfl rfl rfl rfl (by kernel_rfl) rfl (fun _ d _ _ _ h => by cases d <;> exact h) (fun w => y_fieldAddr (k := 0) S (by kernel_rfl) rfl) ?_; clear S a; intro a S
  refine k_pure (listed' := #[true, true, true, true, true, false, false, false, false, false, false, false, false]) 4 S rfl rfl rfl rfl (by kernel_rfl) rfl (fun _ d _ _ _ h => by cases d <;> exact h) (fun w => y_fieldAddr (k := 271) S (by kernel_rfl) rfl) ?_; clear S a; intro a S
  refine k_read (listed' := #[true, true, true, true, true, true, false, false, false, false, false, false, false]) 5 S rfl rfl rfl rfl (by kernel_rfl) rfl (fun _ d _ _ _ h => by cases d <;> exact h) (fun w hW => have M := M.grow hW; y_load S (by kernel_rfl) rfl (M.cell 3 rfl (St.doubt hs _))) ?_; clear S a; intro a S
  refine k_read (listed' := #[true, true, true, true, true, true, true, false, false, false, false, false, false]) 6 S rfl rfl rfl rfl (by kernel_rfl) rfl (fun _ d _ _ _ h => by cases d <;> exact h) (fun w hW => have M := M.grow hW; y_loadAgg (cs := [_, _, _, _, _, _]) S (by kernel_rfl) rfl rfl (M.cellsAt (k := 6) 0 rfl rfl)) ?_; clear S a; intro a S
  refine k_one (listed' := #[true, true, true, true, true, true, true, true, false, false, false, false, false]) 7 rfl (by kernel_rfl) rfl ?_
  refine st_lit (ps := [(0, (Operand.tmp 42))]) (e := 52) (sz := 6) (zl := [.int .i64 0, .int .i64 0, .int .i64 0, .slice none 0 0, .int .i64 0, .int .i64 0]) (cs := [_, _, _, _, _, _]) S M rfl rfl (by kernel_rfl) rfl (rfl) ?_; clear S M a; intro a w9 bZ S M hB
  refine wpList_nil ?_; refine then_normal ?_; refine ⟨fun _ => hB, ?_⟩
  refine k_one (listed' := #[true, true, true, true, true, true, true, true, true, false, false, false, false]) 8 rfl (by kernel_rfl) rfl ?_
  refine st_append (e := 52) (sz := 6) (by_ := 64) (zc := [.int .i64 0, .int .i64 0, .int .i64 0, .slice none 0 0, .int .i64 0, .int .i64 0]) S M 5 rfl rfl (by kernel_rfl) rfl (by decide) rfl rfl rfl (show Rd _ _ _ 6 _ 1 ((prOf r).cellsL (.slice ad x.length cp)) from M.sliceAt 0 rfl (M.cellsAt (k := 6) 0 rfl rfl) rfl (Nat.le_refl _) (by unfold maxLen; omega)) (rfl) (by omega) (by unfold maxLen; omega) ?_; clear S M a; intro a w10 vA loA hiA S M
  refine wpList_nil ?_; refine then_normal ?_; refine ⟨fun h => absurd h (by decide), ?_⟩
  refine k_pure (listed' := #[true, true, true, true, true, true, true, true, true, true, false, false, false]) 9 S rfl rfl rfl rfl (by kernel_rfl) rfl (fun _ d _ _ _ h => by cases d <;> exact h) (fun w => y_nilCheck S rfl) ?_; clear S a; intro a S
  refine k_pure (listed' := #[true, true, true, true, true, true, true, true, true, true, true, false, false]) 10 S rfl rfl rfl rfl (by kernel_rfl) rfl (fun _ d _ _ _ h => by cases d <;> exact h) (fun w => y_fieldAddr (k := 0) S (by kernel_rfl) rfl) ?_; clear S a; intro a S
  refine k_pure (listed' := #[true, true, true, true, true, true, true, true, true, true, true, true, false]) 11 S rfl rfl rfl rfl (by kernel_rfl) rfl (fun _ d _ _ _ h => by cases d <;> exact h) (fun w => y_fieldAddr (k := 271) S (by kernel_rfl) rfl) ?_; clear S a; intro a S
  refine k_one (listed' := #[true, true, true, true, true, true, true, true, true, true, true, true, true]) 12 rfl (by kernel_rfl) rfl ?_
  obtain ⟨aA, cA, rfl, -, -⟩ := (M.readAll 0 rfl (by unfold maxLen; omega)).form
  refine st_store (sz := 1) (us := [_]) S M 5 rfl (by kernel_rfl) rfl rfl rfl rfl rfl rfl (by rw [St.len hs]; exact (by decide : 272 ≤ 273)) ?_; clear M; intro w11 M
  simp only [putL, List.set_cons_zero, List.set_cons_succ, Nat.reduceAdd] at M
  refine wpList_nil ?_; refine then_normal ?_; refine ⟨fun h => absurd h (by decide), ?_⟩
  refine k_end (by kernel_rfl) ?_
  refine end_noneN S rfl ?_
  replace M := M.drop 1
  simp only [List.eraseIdx_cons_succ, List.eraseIdx_cons_zero] at M
  replace M := M.drop 1
  simp only [List.eraseIdx_cons_succ, List.eraseIdx_cons_zero] at M
  replace M := M.drop 2
  simp only [List.eraseIdx_cons_succ, List.eraseIdx_cons_zero] at M
  replace M := M.front 2 rfl
  simp only [List.eraseIdx_cons_succ, List.eraseIdx_cons_zero] at M
  rw [St.setD hs] at M
  have hBk' := hBk.more (q := (prOf r, x)) (ad := ad) (cp := cp) (lo := lo1) (hi := hi1) hx
  refine ⟨rfl, .slice aA (ps.length + 1) cA, loA, hiA, cs ++ (prOf r).cellsL (.slice ad x.length cp), rowE lo1 hi1 49 9 (.slice ad x.length cp) x.length (wcells x) :: es, ?_, by rw [step2_none hk hf]; exact hBk'⟩
  rw [meth2 hk (by rw [step2_none hk hf]), step2_none hk hf, List.length_append (bs := [(prOf r, x)])]
  exact M.perm ((List.perm_middle.symm.cons _).cons _)

theorem step3_some {ps : Pl} {r : Rc} {x : List Wr} {k : Nat} {q : Pr × List Wr} (hk : r.kind = 3) (hf : findP r.name ps = some k) (hq : ps[k]? = some q) : stepP ps r x = (ps.eraseIdx k, if r.yes then q.2 else []) := by
  unfold stepP; rw [if_neg (by omega), if_neg (by omega), hf]; simp only [hq]
theorem step3_none {ps : Pl} {r : Rc} {x : List Wr} (hk : r.kind = 3) (hf : findP r.name ps = none) : stepP ps r x = (ps, []) := by
  unfold stepP; rw [if_neg (by omega), if_neg (by omega), hf]
theorem meth3_none {s : St} {ps : Pl} {r : Rc} {x : List Wr} (hk : r.kind = 3) (hf : findP r.name ps = none) : methSt s ps r x = s := by
  unfold methSt ownP; rw [step3_none hk hf, hf]; simp [onF]
theorem meth3_no {s : St} {ps : Pl} {r : Rc} {x : List Wr} {k : Nat} {q : Pr × List Wr} (hk : r.kind = 3) (hf : findP r.name ps = some k) (hq : ps[k]? = some q) (hy : r.yes = false) : methSt s ps r x = s := by
  unfold methSt ownP; rw [step3_some hk hf hq, hy]; simp [onF]
theorem meth3_yes {s : St} {ps : Pl} {r : Rc} {x : List Wr} {k : Nat} {q : Pr × List Wr} (hk : r.kind = 3) (hf : findP r.name ps = some k) (hq : ps[k]? = some q) (hy : r.yes = true) : methSt s ps r x = { s with home := onF s.home q.2, owned := orV (andNotV s.owned q.1.give) q.1.take } := by
  unfold methSt ownP; rw [step3_some hk hf hq, if_pos ⟨hk, hy⟩, hf]; simp [hq, hy]
set_option maxHeartbeats 1000000 in
theorem outcome_any {wc w : World} {H : List Ent} {b : Nat} {s : St} {ps : Pl} (hs : s.ok) (W : WkM wc w H b s ps) (hps : ps.length ≤ 10000) (r : Rc) (va : Option Addr) (vc : Nat) (x : List Wr) (hk : r.kind = 3) :
    Calls Try.prog 12 #[.pointer (some ⟨b, 0, none⟩), .agg (r.cells (.slice va x.length vc))] w (MethPost wc H b s ps r x) := by
  obtain ⟨dv, lo, hi, cs, es, M, hBk⟩ := W
  obtain ⟨da, dc, rfl, -, -⟩ := (M.readRow 1 rfl (by unfold maxLen; omega)).form
  refine calls_enter Try.func12 rfl 71 rfl rfl ?_; intro a S
  refine wp_seq ?_
  skip
  refine wp_region_lit ?_
  refine st_box S M rfl rfl rfl #[_, _, _, _, _, _, _, _, _, _, _, _] rfl ?_; clear S M a; intro a w1 bX S M hB
  refine nxC ?_
  refine wp_seq ?_
  refine wp_regionK [] #[false, false, false, false, false, false, false, false, false, false, false, false] rfl M (by kernel_rfl) ?_; clear M; intro w2 M
  refine k_pure (listed' := #[true, false, false, false, false, false, false, false, false, false, false, false]) 0 S rfl rfl rfl rfl (by kernel_rfl) rfl (fun _ d _ _ _ h => by cases d <;> exact h) (fun w => y_move S rfl) ?_; clear S a; intro a S
  refine k_pure (listed' := #[true, true, false, false, false, false, false, false, false, false, false, false]) 1 S rfl rfl rfl rfl (by kernel_rfl) rfl (fun _ d _ _ _ h => by cases d <;> exact h) (fun w => y_nilCheck S rfl) ?_; clear S a; intro a S
  refine k_pure (listed' := #[true, true, true, false, false, false, false, false, false, false, false, false]) 2 S rfl rfl rfl rfl (by kernel_rfl) rfl (fun _ d _ _ _ h => by cases d <;> exact h) (fun w => y_fieldAddr (k := 0) S (by kernel_rfl) rfl) ?_; clear S a; intro a S
  refine k_read (listed' := #[true, true, true, true, false, false, false, false, false, false, false, false]) 3 S rfl rfl rfl rfl (by kernel_rfl) rfl (fun _ d _ _ _ h => by cases d <;> exact h) (fun w hW => have M := M.grow hW; y_loadAgg (k := 273) (cs := _) S (by kernel_rfl) rfl (by first | exact St.len hs _ | exact St.pre_len hs | exact hs.hl | exact hon) (M.cellsAt 1 rfl cutL_all)) ?_; clear S a; intro a S
  refine k_pure (listed' := #[true, true, true, true, true, false, false, false, false, false, false, false]) 4 S rfl rfl rfl rfl (by kernel_rfl) rfl (fun _ d _ _ _ h => by cases d <;> exact h) (fun w => y_fieldAddr (k := 1) S (by kernel_rfl) rfl) ?_; clear S a; intro a S
  refine k_read (listed' := #[true, true, true, true, true, true, false, false, false, false, false, false]) 5 S rfl rfl rfl rfl (by kernel_rfl) rfl (fun _ d _ _ _ h => by cases d <;> exact h) (fun w hW => have M := M.grow hW; y_loadAgg (cs := [_, _, _]) S (by kernel_rfl) rfl rfl (M.cellsAt (k := 3) 0 rfl rfl)) ?_; clear S a; intro a S
  refine k_one (listed' := #[true, true, true, true, true, true, true, false, false, false, false, false]) 6 rfl (by kernel_rfl) rfl ?_
  refine st_call (xs := [(Operand.tmp 11), (Operand.tmp 13)]) S (enters_of Try.func17 (by decide) rfl) rfl rfl rfl (find_any s hs _ cs ps r.name _ ((hBk.prs M (List.mem_of_getElem? (show _[2]? = _ from rfl)) (fun e he => by simp [he]) (by unfold maxLen; omega)).wide (Nat.zero_le _) (Nat.le_refl _))) ?_
  rintro _ w3 ⟨k, y, rfl, hK, hy⟩; refine ⟨_, rfl, ?_⟩; clear S a; intro a S; replace M := M.grow hK
  refine wpList_nil ?_; refine then_normal ?_; refine ⟨fun _ => hK, ?_⟩
  refine k_pure (listed' := #[true, true, true, true, true, true, true, true, false, false, false, false]) 7 S rfl rfl rfl rfl (by kernel_rfl) rfl (fun _ d _ _ _ h => by cases d <;> exact h) (fun w => y_move S rfl) ?_; clear S a; intro a S
  refine k_pure (listed' := #[true, true, true, true, true, true, true, true, true, false, false, false]) 8 S rfl rfl rfl rfl (by kernel_rfl) rfl (fun _ d _ _ _ h => by cases d <;> exact h) (fun w => y_extract S rfl rfl) ?_; clear S a; intro a S
  refine k_pure (listed' := #[true, true, true, true, true, true, true, true, true, true, false, false]) 9 S rfl rfl rfl rfl (by kernel_rfl) rfl (fun _ d _ _ _ h => by cases d <;> exact h) (fun w => y_extract S rfl rfl) ?_; clear S a; intro a S
  refine k_pure (listed' := #[true, true, true, true, true, true, true, true, true, true, true, false]) 10 S rfl rfl rfl rfl (by kernel_rfl) rfl (fun _ d _ _ _ h => by cases d <;> exact h) (fun w => y_assign S rfl) ?_; clear S a; intro a S
  refine k_pure (listed' := #[true, true, true, true, true, true, true, true, true, true, true, true]) 11 S rfl rfl rfl rfl (by kernel_rfl) rfl (fun _ d _ _ _ h => by cases d <;> exact h) (fun w => y_assign S rfl) ?_; clear S a; intro a S
  refine k_end (by kernel_rfl) ?_
  refine then_normal ?_
  refine wp_seq ?_
  refine nxD ?_
  refine st_go [1, 1] S rfl (by kernel_rfl) ?_; clear S a; intro a S
  refine nxC ?_
  refine st_split (t := 18) S rfl ?_ ?_
  · clear S; intro h18 S
    refine st_condT S rfl ?_
    refine wp_ret ?_
    refine then_ret ?_
    refine end_none S rfl ?_
    replace M := M.drop 0
    simp only [List.eraseIdx_cons_succ, List.eraseIdx_cons_zero] at M
    have hf : findP r.name ps = none := by
      rcases hy with ⟨h, -⟩ | ⟨-, -, h⟩
      · exfalso; rw [h] at h18; simp at h18
      · exact h
    exact ⟨rfl, _, lo, hi, cs, es, by rw [meth3_none hk hf, step3_none hk hf]; exact M, by rw [step3_none hk hf]; exact hBk⟩
  clear S; intro h18 S
  refine st_condF S rfl ?_
  refine wp_skip ?_
  refine then_normal ?_
  refine wp_seq ?_
  have hf : findP r.name ps = some k := by
    rcases hy with ⟨-, h⟩ | ⟨h, -⟩
    · exact h
    · exfalso; rw [h] at h18; simp at h18
  obtain ⟨q, hq⟩ := findP_get hf
  have hkl : k < ps.length := (List.getElem?_eq_some_iff.1 hq).1
  obtain ⟨qa, qc, qlo, qhi, hrow, hmem, hql⟩ := hBk.2.2 k q hq
  have hB0 := hBk.1
  refine wp_region_lit ?_
  refine st_go [1, 1, 1, 272] S rfl (by kernel_rfl) ?_; clear S a; intro a S
  refine st_y S rfl rfl rfl (y_load S (by kernel_rfl) rfl (M.cell 1 rfl (St.doubt hs _))) ?_; clear S a; intro a S
  refine st_go [1] S rfl (by kernel_rfl) ?_; clear S a; intro a S
  refine st_y S rfl rfl rfl (y_indexR (e := 52) (sz := 6) S (by kernel_rfl) rfl (M.readRow 2 rfl (by unfold maxLen; omega)) rfl (by first | omega | (simp; done) | (simp; omega))) ?_; clear S a; intro a S
  try simp only [Int.toNat_natCast, Nat.mul_one, Nat.zero_add] at S
  refine st_y S rfl rfl rfl (y_loadAgg S (by kernel_rfl) rfl rfl ((M.readRow 2 rfl (by unfold maxLen; omega)).at_.row (i := k) hrow rfl)) ?_; clear S a; intro a S
  refine st_alloc S M rfl rfl #[.int .i64 0, .int .i64 0, .int .i64 0, .slice none 0 0, .int .i64 0, .int .i64 0] (by kernel_rfl) ?_; clear S M a; intro a w4 bP S M hB
  refine st_store (sz := 6) (us := [_, _, _, _, _, _]) S M 0 rfl (by kernel_rfl) rfl rfl rfl rfl rfl rfl (by first | decide | (simp; done) | (simp; omega)) ?_; clear M; intro w5 M
  simp only [putL, List.set_cons_zero, List.set_cons_succ, Nat.reduceAdd] at M
  replace S := S.sub [(0, _), (1, _), (3, _), (4, _), (5, _), (18, _), (6, _)] rfl
  refine nxC ?_
  refine wp_seq ?_
  replace M := M.front 3 rfl
  simp only [List.eraseIdx_cons_succ, List.eraseIdx_cons_zero] at M
  obtain ⟨g, cap, more, hvE, hc1, hc2, hc3, M1⟩ := M.ofRow (by omega)
  simp only [Value.slice.injEq] at hvE
  obtain ⟨rfl, -, rfl⟩ := hvE
  clear M
  have M := M1
  clear M1
  refine wp_region_lit ?_
  refine st_go [1, 1, 1, 1, 272] S rfl (by kernel_rfl) ?_; clear S a; intro a S
  refine st_y S rfl rfl rfl (y_load S (by kernel_rfl) rfl (M.cell 3 rfl (St.doubt hs _))) ?_; clear S a; intro a S
  refine st_go [1, 1] S rfl (by kernel_rfl) ?_; clear S a; intro a S
  (first | refine st_y S rfl rfl rfl (y_addN S rfl rfl (by omega)) ?_ | refine st_y S rfl rfl rfl (y_int S rfl rfl rfl) ?_); clear S a; intro a S
  refine st_call (xs := [(Operand.tmp 32), (Operand.tmp 33), (Operand.tmp 35)]) S (enters_of Try.func18 (by decide) rfl) rfl rfl rfl (delete_any M hB0 (allOne_take hBk.2.1 _).2 hc3 hc1 hc2 hkl) ?_
  rintro _ w6 ⟨rfl, more2, hm2, M1⟩; refine ⟨_, rfl, ?_⟩; clear S a; intro a S; replace M := M1; clear M1
  refine st_go [1, 1, 272] S rfl (by kernel_rfl) ?_; clear S a; intro a S
  refine st_store (sz := 1) (us := [_]) S M 3 rfl (by kernel_rfl) rfl rfl rfl rfl rfl rfl (by rw [St.len hs]; exact (by decide : 272 ≤ 273)) ?_; clear M; intro w7 M
  simp only [putL, List.set_cons_zero, List.set_cons_succ, Nat.reduceAdd] at M
  refine nxC ?_
  refine wp_seq ?_
  rw [St.setD hs] at M
  have hon : (hcells (onF s.home q.2)).length = 256 := by rw [hcells_length, onF_length, hs.lh]
  have hs2 : ({ s with home := onF s.home q.2 } : St).ok := ⟨hs.l2, hs.l12, by show (onF _ _).length = 32; rw [onF_length]; exact hs.lh, hs.o2, hs.o12⟩
  refine wp_region_lit ?_
  refine st_run [5, 3] S M rfl (by kernel_rfl) ?_; clear S a; intro a S
  replace S := S.sub [(0, _), (1, _), (3, _), (4, _), (5, _), (18, _), (6, _), (41, _)] rfl
  refine nxC ?_
  refine st_tils (t := 41) S rfl ?_ ?_
  · clear S; intro h41 S
    refine st_condF S rfl ?_
    refine wp_skip ?_
    refine end_noneN S rfl ?_
    replace M := M.drop 1
    simp only [List.eraseIdx_cons_succ, List.eraseIdx_cons_zero] at M
    replace M := M.drop 1
    simp only [List.eraseIdx_cons_succ, List.eraseIdx_cons_zero] at M
    have hBk' := hBk.del hkl
    have hl := hBk'.1
    have hle : (ps.eraseIdx k).length = ps.length - 1 := by rw [List.length_eraseIdx, if_pos hkl]
    rw [hle] at hl
    replace M := M.toRow (sz := 6) (m := ps.length - 1) (cap := dc) (xs := cs.take (k * 6) ++ cs.drop ((k + 1) * 6)) 0 rfl hl (by omega) hc2 (by rw [List.size_toArray, hm2]) (by rw [List.toList_toArray, ← hl]; exact List.take_left)
    refine ⟨rfl, .slice (some ⟨g, 0, none⟩) (ps.length - 1) dc, g, g + 1, cs.take (k * 6) ++ cs.drop ((k + 1) * 6), es, ?_, by rw [step3_some hk hf hq]; exact hBk'⟩
    first
      | (rw [meth3_no hk hf hq h41, step3_some hk hf hq, hle]; exact M.front 1 rfl)
      | (rw [meth3_yes hk hf hq h41, step3_some hk hf hq, hle]; rw [St.setO hs2] at M; exact M.front 1 rfl)
  clear S; intro h41 S
  refine st_condT S rfl ?_
  refine wp_seq ?_
  refine wp_regionK [12] #[false, false, false, false, false, false, false, false, false, false, false, false, false] rfl M (by kernel_rfl) ?_; clear M; intro w8 M
  refine k_pure (listed' := #[true, false, false, false, false, false, false, false, false, false, false, false, false]) 0 S rfl rfl rfl rfl (by kernel_rfl) rfl (fun _ d _ _ _ h => by cases d <;> exact h) (fun w => y_move S rfl) ?_; clear S a; intro a S
  refine k_pure (listed' := #[true, true, false, false, false, false, false, false, false, false, false, false, false]) 1 S rfl rfl rfl rfl (by kernel_rfl) rfl (fun _ d _ _ _ h => by cases d <;> exact h) (fun w => y_move S rfl) ?_; clear S a; intro a S
  refine k_pure (listed' := #[true, true, true, false, false, false, false, false, false, false, false, false, false]) 2 S rfl rfl rfl rfl (by kernel_rfl) rfl (fun _ d _ _ _ h => by cases d <;> exact h) (fun w => y_nilCheck S rfl) ?_; clear S a; intro a S
  refine k_pure (listed' := #[true, true, true, true, false, false, false, false, false, false, false, false, false]) 3 S rfl rfl rfl rfl (by kernel_rfl) rfl (fun _ d _ _ _ h => by cases d <;> exact h) (fun w => y_fieldAddr (k := 0) S (by kernel_rfl) rfl) ?_; clear S a; intro a S
  refine k_pure (listed' := #[true, true, true, true, true, false, false, false, false, false, false, false, false]) 4 S rfl rfl rfl rfl (by kernel_rfl) rfl (fun _ d _ _ _ h => by cases d <;> exact h) (fun w => y_fieldAddr (k := 15) S (by kernel_rfl) rfl) ?_; clear S a; intro a S
  refine k_read (listed' := #[true, true, true, true, true, true, false, false, false, false, false, false, false]) 5 S rfl rfl rfl rfl (by kernel_rfl) rfl (fun _ d _ _ _ h => by cases d <;> exact h) (fun w hW => have M := M.grow hW; y_loadAgg (k := 256) S (by kernel_rfl) rfl (by first | exact St.len hs _ | exact St.pre_len hs | exact hs.hl | exact hon) (M.cellsMid 3 rfl (by first | exact St.len hs _ | exact St.pre_len hs | exact hs.hl | exact hon))) ?_; clear S a; intro a S
  refine k_pure (listed' := #[true, true, true, true, true, true, true, false, false, false, false, false, false]) 6 S rfl rfl rfl rfl (by kernel_rfl) rfl (fun _ d _ _ _ h => by cases d <;> exact h) (fun w => y_fieldAddr (k := 3) S (by kernel_rfl) rfl) ?_; clear S a; intro a S
  refine k_read (listed' := #[true, true, true, true, true, true, true, true, false, false, false, false, false]) 7 S rfl rfl rfl rfl (by kernel_rfl) rfl (fun _ d _ _ _ h => by cases d <;> exact h) (fun w hW => have M := M.grow hW; y_load S (by kernel_rfl) rfl (M.cell 1 rfl rfl)) ?_; clear S a; intro a S
  refine k_one (listed' := #[true, true, true, true, true, true, true, true, true, false, false, false, false]) 8 rfl (by kernel_rfl) rfl ?_
  refine st_call (xs := [(Operand.tmp 47), (Operand.tmp 49)]) S (enters_of Try.func16 (by decide) rfl) rfl rfl rfl (on_any s.home _ q.2 _ hs.lh (rowW (lo := qlo) (hi := qhi) M (by simp [hmem]) hql)) ?_
  rintro _ w9 ⟨rfl, hK⟩; refine ⟨_, rfl, ?_⟩; clear S a; intro a S; replace M := M.grow hK
  refine wpList_nil ?_; refine then_normal ?_; refine ⟨fun _ => hK, ?_⟩
  refine k_pure (listed' := #[true, true, true, true, true, true, true, true, true, true, false, false, false]) 9 S rfl rfl rfl rfl (by kernel_rfl) rfl (fun _ d _ _ _ h => by cases d <;> exact h) (fun w => y_nilCheck S rfl) ?_; clear S a; intro a S
  refine k_pure (listed' := #[true, true, true, true, true, true, true, true, true, true, true, false, false]) 10 S rfl rfl rfl rfl (by kernel_rfl) rfl (fun _ d _ _ _ h => by cases d <;> exact h) (fun w => y_fieldAddr (k := 0) S (by kernel_rfl) rfl) ?_; clear S a; intro a S
  refine k_pure (listed' := #[true, true, true, true, true, true, true, true, true, true, true, true, false]) 11 S rfl rfl rfl rfl (by kernel_rfl) rfl (fun _ d _ _ _ h => by cases d <;> exact h) (fun w => y_fieldAddr (k := 15) S (by kernel_rfl) rfl) ?_; clear S a; intro a S
  refine k_one (listed' := #[true, true, true, true, true, true, true, true, true, true, true, true, true]) 12 rfl (by kernel_rfl) rfl ?_
  refine st_storeMid (sz := 256) S M 3 rfl (by kernel_rfl) rfl rfl rfl (by first | exact St.len hs _ | exact St.pre_len hs | exact hs.hl | exact hon) (by exact allOne_hcells _) rfl (by first | exact St.len hs _ | exact St.pre_len hs | exact hs.hl | exact hon) (by first | exact St.len hs _ | exact St.pre_len hs | exact hs.hl | exact hon) ?_; clear M; intro w10 M
  simp only [List.set_cons_zero, List.set_cons_succ] at M
  refine wpList_nil ?_; refine then_normal ?_; refine ⟨fun h => absurd h (by decide), ?_⟩
  refine k_end (by kernel_rfl) ?_
  refine then_normal ?_
  rw [show s.pre ++ ((Value.agg (hcells (onF s.home q.2)).toArray).cells.toList ++ [Value.slice (some ⟨g, 0, none⟩) (ps.length - 1) dc, Value.int .i64 s.app]) = ({ s with home := onF s.home q.2 } : St).cellsL (.slice (some ⟨g, 0, none⟩) (ps.length - 1) dc) from rfl] at M
  refine wp_regionK [17] #[false, false, false, false, false, false, false, false, false, false, false, false, false, false, false, false, false, false] rfl M (by kernel_rfl) ?_; clear M; intro w11 M
  refine k_pure (listed' := #[true, false, false, false, false, false, false, false, false, false, false, false, false, false, false, false, false, false]) 0 S rfl rfl rfl rfl (by kernel_rfl) rfl (fun _ d _ _ _ h => by cases d <;> exact h) (fun w => y_move S rfl) ?_; clear S a; intro a S
  refine k_pure (listed' := #[true, true, false, false, false, false, false, false, false, false, false, false, false, false, false, false, false, false]) 1 S rfl rfl rfl rfl (by kernel_rfl) rfl (fun _ d _ _ _ h => by cases d <;> exact h) (fun w => y_move S rfl) ?_; clear S a; intro a S
  refine k_pure (listed' := #[true, true, true, false, false, false, false, false, false, false, false, false, false, false, false, false, false, false]) 2 S rfl rfl rfl rfl (by kernel_rfl) rfl (fun _ d _ _ _ h => by cases d <;> exact h) (fun w => y_nilCheck S rfl) ?_; clear S a; intro a S
  refine k_pure (listed' := #[true, true, true, true, false, false, false, false, false, false, false, false, false, false, false, false, false, false]) 3 S rfl rfl rfl rfl (by kernel_rfl) rfl (fun _ d _ _ _ h => by cases d <;> exact h) (fun w => y_fieldAddr (k := 0) S (by kernel_rfl) rfl) ?_; clear S a; intro a S
  refine k_pure (listed' := #[true, true, true, true, true, false, false, false, false, false, false, false, false, false, false, false, false, false]) 4 S rfl rfl rfl rfl (by kernel_rfl) rfl (fun _ d _ _ _ h => by cases d <;> exact h) (fun w => y_fieldAddr (k := 0) S (by kernel_rfl) rfl) ?_; clear S a; intro a S
  refine k_pure (listed' := #[true, true, true, true, true, true, false, false, false, false, false, false, false, false, false, false, false, false]) 5 S rfl rfl rfl rfl (by kernel_rfl) rfl (fun _ d _ _ _ h => by cases d <;> exact h) (fun w => y_fieldAddr (k := 2) S (by kernel_rfl) rfl) ?_; clear S a; intro a S
  refine k_read (listed' := #[true, true, true, true, true, true, true, false, false, false, false, false, false, false, false, false, false, false]) 6 S rfl rfl rfl rfl (by kernel_rfl) rfl (fun _ d _ _ _ h => by cases d <;> exact h) (fun w hW => have M := M.grow hW; y_load S (by kernel_rfl) rfl (M.cell 3 rfl (St.getO hs2 _))) ?_; clear S a; intro a S
  refine k_pure (listed' := #[true, true, true, true, true, true, true, true, false, false, false, false, false, false, false, false, false, false]) 7 S rfl rfl rfl rfl (by kernel_rfl) rfl (fun _ d _ _ _ h => by cases d <;> exact h) (fun w => y_fieldAddr (k := 4) S (by kernel_rfl) rfl) ?_; clear S a; intro a S
  refine k_read (listed' := #[true, true, true, true, true, true, true, true, true, false, false, false, false, false, false, false, false, false]) 8 S rfl rfl rfl rfl (by kernel_rfl) rfl (fun _ d _ _ _ h => by cases d <;> exact h) (fun w hW => have M := M.grow hW; y_load S (by kernel_rfl) rfl (M.cell 1 rfl rfl)) ?_; clear S a; intro a S
  refine k_pure (listed' := #[true, true, true, true, true, true, true, true, true, true, false, false, false, false, false, false, false, false]) 9 S rfl rfl rfl rfl (by kernel_rfl) rfl (fun _ d _ _ _ h => by cases d <;> exact h) (fun w => y_andNot S rfl rfl) ?_; clear S a; intro a S
  refine k_pure (listed' := #[true, true, true, true, true, true, true, true, true, true, true, false, false, false, false, false, false, false]) 10 S rfl rfl rfl rfl (by kernel_rfl) rfl (fun _ d _ _ _ h => by cases d <;> exact h) (fun w => y_fieldAddr (k := 5) S (by kernel_rfl) rfl) ?_; clear S a; intro a S
  refine k_read (listed' := #[true, true, true, true, true, true, true, true, true, true, true, true, false, false, false, false, false, false]) 11 S rfl rfl rfl rfl (by kernel_rfl) rfl (fun _ d _ _ _ h => by cases d <;> exact h) (fun w hW => have M := M.grow hW; y_load S (by kernel_rfl) rfl (M.cell 1 rfl rfl)) ?_; clear S a; intro a S
  (first | refine k_pure (listed' := #[true, true, true, true, true, true, true, true, true, true, true, true, true, false, false, false, false, false]) 12 S rfl rfl rfl rfl (by kernel_rfl) rfl (fun _ d _ _ _ h => by cases d <;> exact h) (fun w => y_orN S rfl rfl (by omega) (by omega)) ?_ | refine k_pure (listed' := #[true, true, true, true, true, true, true, true, true, true, true, true, true, false, false, false, false, false]) 12 S rfl rfl rfl rfl (by kernel_rfl) rfl (fun _ d _ _ _ h => by cases d <;> exact h) (fun w => y_int S rfl rfl rfl) ?_); clear S a; intro a S
  refine k_pure (listed' := #[true, true, true, true, true, true, true, true, true, true, true, true, true, true, false, false, false, false]) 13 S rfl rfl rfl rfl (by kernel_rfl) rfl (fun _ d _ _ _ h => by cases d <;> exact h) (fun w => y_nilCheck S rfl) ?_; clear S a; intro a S
  refine k_pure (listed' := #[true, true, true, true, true, true, true, true, true, true, true, true, true, true, true, false, false, false]) 14 S rfl rfl rfl rfl (by kernel_rfl) rfl (fun _ d _ _ _ h => by cases d <;> exact h) (fun w => y_fieldAddr (k := 0) S (by kernel_rfl) rfl) ?_; clear S a; intro a S
  refine k_pure (listed' := #[true, true, true, true, true, true, true, true, true, true, true, true, true, true, true, true, false, false]) 15 S rfl rfl rfl rfl (by kernel_rfl) rfl (fun _ d _ _ _ h => by cases d <;> exact h) (fun w => y_fieldAddr (k := 0) S (by kernel_rfl) rfl) ?_; clear S a; intro a S
  refine k_pure (listed' := #[true, true, true, true, true, true, true, true, true, true, true, true, true, true, true, true, true, false]) 16 S rfl rfl rfl rfl (by kernel_rfl) rfl (fun _ d _ _ _ h => by cases d <;> exact h) (fun w => y_fieldAddr (k := 2) S (by kernel_rfl) rfl) ?_; clear S a; intro a S
  refine k_one (listed' := #[true, true, true, true, true, true, true, true, true, true, true, true, true, true, true, true, true, true]) 17 rfl (by kernel_rfl) rfl ?_
  refine st_store (sz := 1) (us := [_]) S M 3 rfl (by kernel_rfl) rfl rfl rfl rfl rfl rfl (by rw [St.len hs2]; exact (by decide : 3 ≤ 273)) ?_; clear M; intro w12 M
  simp only [putL, List.set_cons_zero, List.set_cons_succ, Nat.reduceAdd] at M
  refine wpList_nil ?_; refine then_normal ?_; refine ⟨fun h => absurd h (by decide), ?_⟩
  refine k_end (by kernel_rfl) ?_
  replace S := S.sub [(0, _), (1, _), (3, _), (4, _), (5, _), (18, _), (6, _), (41, _)] rfl
  refine end_noneN S rfl ?_
  replace M := M.drop 1
  simp only [List.eraseIdx_cons_succ, List.eraseIdx_cons_zero] at M
  replace M := M.drop 1
  simp only [List.eraseIdx_cons_succ, List.eraseIdx_cons_zero] at M
  have hBk' := hBk.del hkl
  have hl := hBk'.1
  have hle : (ps.eraseIdx k).length = ps.length - 1 := by rw [List.length_eraseIdx, if_pos hkl]
  rw [hle] at hl
  replace M := M.toRow (sz := 6) (m := ps.length - 1) (cap := dc) (xs := cs.take (k * 6) ++ cs.drop ((k + 1) * 6)) 0 rfl hl (by omega) hc2 (by rw [List.size_toArray, hm2]) (by rw [List.toList_toArray, ← hl]; exact List.take_left)
  refine ⟨rfl, .slice (some ⟨g, 0, none⟩) (ps.length - 1) dc, g, g + 1, cs.take (k * 6) ++ cs.drop ((k + 1) * 6), es, ?_, by rw [step3_some hk hf hq]; exact hBk'⟩
  first
    | (rw [meth3_no hk hf hq h41, step3_some hk hf hq, hle]; exact M.front 1 rfl)
    | (rw [meth3_yes hk hf hq h41, step3_some hk hf hq, hle]; rw [St.setO hs2] at M; exact M.front 1 rfl)

end Go.Proofs.Ytodfphphidhjbaa
