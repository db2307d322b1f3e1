/-
  Package coord: hear.
-/
import Derived.Test.YtidpeojkkfmgeaaCf
import Derived.Test.YtidpeojkkfmgeaaGX
namespace Go.Proofs.Ytidpeojkkfmgeaa
open Go.RowKit Go.Sort

theorem CellsAt.part {w : World} {b o : Nat} {cs : List Value} (h : CellsAt w b o cs) (i k : Nat) : CellsAt w b (o + i) ((cs.drop i).take k) := fun j hj => by
  rw [List.length_take, List.length_drop] at hj
  rw [Nat.add_assoc, h (i + j) (by omega), List.getElem?_take_of_lt (by omega), List.getElem?_drop]
def orV (x y : Int) : Int := IntKind.i64.wrap (BitVec.ofInt IntKind.i64.bits x ||| BitVec.ofInt IntKind.i64.bits y).toNat
def bitM (m : Msg) : Int := 1 * 2 ^ m.frm.toNat
def commitR (d : Dr) : Rc := ⟨4, d.name, false, 0, 0, d.shards, d.cs, d.ct, 0⟩
def endR (d : Dr) : Rc := ⟨5, d.name, false, 0, 0, 0, 0, 0, 0⟩
def asksM (m : Msg) : Prop := m.kind = 8 ∨ (m.kind = 5 ∧ m.yes = true)
/-- what is done of one that voted, or acknowledged -/
def hear2 (ds : Dl) (k : Nat) (q : Dr × List Wr) : Dl × Mls × Kl × El :=
  if q.1.phase = 1 ∧ q.1.yes = q.1.shards then (ds.set k ({ q.1 with phase := 2 }, q.2), [], [(commitR q.1, [])], [])
  else if q.1.phase = 3 ∧ q.1.acks = q.1.shards then (ds.eraseIdx k, [], [(endR q.1, [])], []) else (ds.set k q, [], [], [])
open Classical in
noncomputable def hear1 (ds : Dl) (k : Nat) (q : Dr × List Wr) (m : Msg) : Dl × Mls × Kl × El :=
  if q.1.phase = 3 ∧ asksM m then (ds, (bitsK (bitM m) 4).map (decM m.name true), [], [])
  else if q.1.phase = 1 ∧ m.kind = 5 ∧ bitK q.1.shards m.frm.toNat = true ∧ m.yes = false then (ds.eraseIdx k, (bitsK q.1.shards 4).map (decM q.1.name false), [], [(q.1.name, false)])
  else if q.1.phase = 1 ∧ m.kind = 5 ∧ bitK q.1.shards m.frm.toNat = true then hear2 ds k ({ q.1 with yes := orV q.1.yes (bitM m) }, q.2)
  else if q.1.phase = 3 ∧ m.kind = 7 ∧ bitK q.1.shards m.frm.toNat = true then hear2 ds k ({ q.1 with acks := orV q.1.acks (bitM m) }, q.2)
  else (ds, [], [], [])
open Classical in
noncomputable def hear0 (ds : Dl) (m : Msg) : Dl × Mls × Kl × El := if asksM m then (ds, (bitsK (bitM m) 4).map (decM m.name false), [], []) else (ds, [], [], [])
/-- what a machine is behind a message, and what it says -/
def HearP (ds : Dl) (m : Msg) (r : Dl × Mls × Kl × El) : Prop :=
  (∃ k q, ds[k]? = some q ∧ q.1.name = m.name ∧ r = hear1 ds k q m) ∨ ((∀ (i : Nat) (q : Dr × List Wr), ds[i]? = some q → q.1.name ≠ m.name) ∧ r = hear0 ds m)
def HearPost (wc : World) (H : List Ent) (b : Nat) (ds : Dl) (m : Msg) (e : Ending) (w' : World) : Prop :=
  e = .returned (.tuple #[]) ∧ ∃ r es', HearP ds m r ∧ MacE wc w' H b r.1 r.2.1 r.2.2.1 r.2.2.2 es'
/-- whom a message finds -/
def WhoP (ds : Dl) (m : Msg) (k : Nat) (ph : Int) (ou : Bool) : Prop :=
  (∃ q, ds[k]? = some q ∧ q.1.name = m.name ∧ ph = q.1.phase ∧ ou = bitK q.1.shards m.frm.toNat) ∨ ((∀ (i : Nat) (q : Dr × List Wr), ds[i]? = some q → q.1.name ≠ m.name) ∧ ph = 0 ∧ ou = false)
theorem hearP_nil {ds : Dl} {m : Msg} {k : Nat} {ph : Int} {ou : Bool} (hph : WhoP ds m k ph ou) (h1 : ¬ (ph = 3 ∧ asksM m)) (h2 : ¬ (ph = 0 ∧ asksM m)) (h4 : ¬ (ph = 1 ∧ m.kind = 5 ∧ ou = true)) (h5 : ¬ (ph = 3 ∧ m.kind = 7 ∧ ou = true)) : HearP ds m (ds, [], [], []) := by
  rcases hph with ⟨q, hq, hn, rfl, rfl⟩ | ⟨hn, rfl, rfl⟩
  · refine .inl ⟨k, q, hq, hn, ?_⟩
    unfold hear1
    rw [if_neg h1, if_neg (fun h => h4 ⟨h.1, h.2.1, h.2.2.1⟩), if_neg h4, if_neg h5]
  · refine .inr ⟨hn, ?_⟩
    unfold hear0
    rw [if_neg fun h => h2 ⟨rfl, h⟩]
theorem hearP_yes {ds : Dl} {m : Msg} {k : Nat} {ph : Int} {ou : Bool} (hph : WhoP ds m k ph ou) (h : ph = 3) (ha : asksM m) : HearP ds m (ds, (bitsK (bitM m) 4).map (decM m.name true), [], []) := by
  rcases hph with ⟨q, hq, hn, rfl, rfl⟩ | ⟨hn, rfl, rfl⟩
  · refine .inl ⟨k, q, hq, hn, ?_⟩
    unfold hear1
    rw [if_pos ⟨h, ha⟩]
  · omega
theorem hearP_no {ds : Dl} {m : Msg} {k : Nat} {ph : Int} {ou : Bool} (hph : WhoP ds m k ph ou) (h1 : ∀ (i : Nat) (q : Dr × List Wr), ds[i]? = some q → 1 ≤ q.1.phase ∧ q.1.phase ≤ 3) (h : ph = 0) (ha : asksM m) : HearP ds m (ds, (bitsK (bitM m) 4).map (decM m.name false), [], []) := by
  rcases hph with ⟨q, hq, hn, rfl, rfl⟩ | ⟨hn, rfl, rfl⟩
  · have := (h1 k q hq).1; omega
  · refine .inr ⟨hn, ?_⟩
    unfold hear0
    rw [if_pos ha]
theorem hearP_abort {ds : Dl} {m : Msg} {k : Nat} {q : Dr × List Wr} (hq : ds[k]? = some q) (hn : q.1.name = m.name) (h1 : q.1.phase = 1) (h2 : m.kind = 5) (h3 : bitK q.1.shards m.frm.toNat = true) (h4 : m.yes = false) : HearP ds m (ds.eraseIdx k, (bitsK q.1.shards 4).map (decM q.1.name false), [], [(q.1.name, false)]) := by
  refine .inl ⟨k, q, hq, hn, ?_⟩
  unfold hear1
  rw [if_neg (by omega), if_pos ⟨h1, h2, h3, h4⟩]
theorem hearP_goto {ds : Dl} {m : Msg} {k : Nat} {q : Dr × List Wr} {q2 : Dr} (hq : ds[k]? = some q) (hn : q.1.name = m.name)
    (hc : (q.1.phase = 1 ∧ m.kind = 5 ∧ m.yes = true ∧ bitK q.1.shards m.frm.toNat = true ∧ q2 = { q.1 with yes := orV q.1.yes (bitM m) }) ∨ (q.1.phase = 3 ∧ m.kind = 7 ∧ bitK q.1.shards m.frm.toNat = true ∧ q2 = { q.1 with acks := orV q.1.acks (bitM m) })) : HearP ds m (hear2 ds k (q2, q.2)) := by
  refine .inl ⟨k, q, hq, hn, ?_⟩
  unfold hear1
  rcases hc with ⟨h1, h2, h3, h4, rfl⟩ | ⟨h1, h2, h4, rfl⟩
  · rw [if_neg (by omega), if_neg (by rw [h3]; simp), if_pos ⟨h1, h2, h4⟩]
  · rw [if_neg (by unfold asksM; omega), if_neg (by omega), if_neg (by omega), if_pos ⟨h1, h2, h4⟩]
theorem hear2_keep {ds : Dl} {k : Nat} {q2 : Dr} {x : List Wr} (h1 : q2.phase = 1) (h2 : q2.yes = q2.shards) : hear2 ds k (q2, x) = (ds.set k ({ q2 with phase := 2 }, x), [], [(commitR q2, [])], []) := by
  unfold hear2; rw [if_pos ⟨h1, h2⟩]
theorem hear2_end {ds : Dl} {k : Nat} {q2 : Dr} {x : List Wr} (h1 : q2.phase = 3) (h2 : q2.acks = q2.shards) : hear2 ds k (q2, x) = (ds.eraseIdx k, [], [(endR q2, [])], []) := by
  unfold hear2; rw [if_neg (by show ¬ (q2.phase = 1 ∧ _); omega), if_pos ⟨h1, h2⟩]
theorem hear2_no {ds : Dl} {k : Nat} {q2 : Dr} {x : List Wr} (h1 : ¬ (q2.phase = 1 ∧ q2.yes = q2.shards)) (h2 : ¬ (q2.phase = 3 ∧ q2.acks = q2.shards)) : hear2 ds k (q2, x) = (ds.set k (q2, x), [], [], []) := by
  unfold hear2; rw [if_neg h1, if_neg h2]
theorem hearP_keep {ds : Dl} {m : Msg} {k : Nat} {q : Dr × List Wr} {q2 : Dr} (hq : ds[k]? = some q) (hn : q.1.name = m.name) (hc : (q.1.phase = 1 ∧ m.kind = 5 ∧ m.yes = true ∧ bitK q.1.shards m.frm.toNat = true ∧ q2 = { q.1 with yes := orV q.1.yes (bitM m) }) ∨ (q.1.phase = 3 ∧ m.kind = 7 ∧ bitK q.1.shards m.frm.toNat = true ∧ q2 = { q.1 with acks := orV q.1.acks (bitM m) })) (h1 : q2.phase = 1) (h2 : q2.yes = q2.shards) : HearP ds m (ds.set k ({ q2 with phase := 2 }, q.2), [], [(commitR q2, [])], []) := by
  rw [← hear2_keep h1 h2]; exact hearP_goto hq hn hc
theorem hearP_end {ds : Dl} {m : Msg} {k : Nat} {q : Dr × List Wr} {q2 : Dr} (hq : ds[k]? = some q) (hn : q.1.name = m.name) (hc : (q.1.phase = 1 ∧ m.kind = 5 ∧ m.yes = true ∧ bitK q.1.shards m.frm.toNat = true ∧ q2 = { q.1 with yes := orV q.1.yes (bitM m) }) ∨ (q.1.phase = 3 ∧ m.kind = 7 ∧ bitK q.1.shards m.frm.toNat = true ∧ q2 = { q.1 with acks := orV q.1.acks (bitM m) })) (h1 : q2.phase = 3) (h2 : q2.acks = q2.shards) : HearP ds m ((ds.set k (q2, q.2)).eraseIdx k, [], [(endR q2, [])], []) := by
  rw [List.eraseIdx_set_eq, ← hear2_end (x := q.2) h1 h2]; exact hearP_goto hq hn hc
theorem hearP_on {ds : Dl} {m : Msg} {k : Nat} {q : Dr × List Wr} {q2 : Dr} (hq : ds[k]? = some q) (hn : q.1.name = m.name) (hc : (q.1.phase = 1 ∧ m.kind = 5 ∧ m.yes = true ∧ bitK q.1.shards m.frm.toNat = true ∧ q2 = { q.1 with yes := orV q.1.yes (bitM m) }) ∨ (q.1.phase = 3 ∧ m.kind = 7 ∧ bitK q.1.shards m.frm.toNat = true ∧ q2 = { q.1 with acks := orV q.1.acks (bitM m) })) (h1 : ¬ (q2.phase = 1 ∧ q2.yes = q2.shards)) (h2 : ¬ (q2.phase = 3 ∧ q2.acks = q2.shards)) : HearP ds m (ds.set k (q2, q.2), [], [], []) := by
  rw [← hear2_no h1 h2]; exact hearP_goto hq hn hc
section
variable {w0 w : World} {H : List Ent} {b : Nat} {ds : Dl} {es : List Ent}
theorem put_cell {cs c : List Value} {k sz j : Nat} {v : Value} (hk : (k + 1) * sz ≤ cs.length) (e : (cs.drop (k * sz)).take sz = c) (hj : j < sz) : putL cs (k * sz + j) [v] = cs.take (k * sz) ++ c.set j v ++ cs.drop ((k + 1) * sz) := by
  have hk1 : (k + 1) * sz = k * sz + sz := by rw [Nat.add_mul, Nat.one_mul]
  have h1 : cs = cs.take (k * sz) ++ (c ++ cs.drop ((k + 1) * sz)) := by
    rw [← e, hk1, ← List.drop_drop, List.take_append_drop, List.take_append_drop]
  have hlt : (cs.take (k * sz)).length = k * sz := by rw [List.length_take]; omega
  have hc : c.length = sz := by rw [← e, List.length_take, List.length_drop]; omega
  show cs.set (k * sz + j) v = _
  conv => lhs; rw [h1]
  rw [List.set_append_right _ _ (by omega), hlt, Nat.add_sub_cancel_left, List.set_append_left _ _ (by omega), List.append_assoc]
/-- how far hear has come: the phase and whether the shard is one of its, or that the name is not driven; what was ruled out -/
def HearI (n : Nat) (wc : World) (H : List Ent) (b bX : Nat) (m : Msg) (ml : Value) (ds : Dl) (es : List Ent) (k : Nat) (no : Int → Bool → Prop) (a : Act) (w' : World) : Prop :=
  ∃ ph ou, Sees n a [(0, .pointer (some ⟨b, 0, none⟩)), (3, .pointer (some ⟨bX, 0, none⟩)), (4, .int .i64 (k : Int)), (6, .int .i64 (bitM m)), (7, .int .i8 ph), (8, .bool ou), (9, .bool (m.kind == 5)), (10, .bool (m.kind == 8))] ∧
    MacE wc w' (.blk bX (m.cells ml) 36 :: H) b ds [] [] [] es ∧ ((∃ q, ds[k]? = some q ∧ q.1.name = m.name ∧ ph = q.1.phase ∧ ou = bitK q.1.shards m.frm.toNat) ∨ ((∀ (i : Nat) (q : Dr × List Wr), ds[i]? = some q → q.1.name ≠ m.name) ∧ ph = 0 ∧ ou = false)) ∧ no ph ou
theorem add_assoc5 (a b c : Nat) : a + b + c = a + (b + c) := Nat.add_assoc a b c
set_option maxHeartbeats 2000000 in
theorem hear_any (W : MacE w0 w H b ds [] [] [] es) (hok : machB ds = true) (m : Msg) (ml : Value) (hfr : 0 ≤ m.frm ∧ m.frm ≤ 4) :
    Calls Try.prog 26 #[.pointer (some ⟨b, 0, none⟩), .agg (m.cells ml)] w (HearPost w0 H b ds m) := by
  obtain ⟨hl8, hdr, hri⟩ := machB_iff.1 hok
  have hph1 : ∀ (i : Nat) (q : Dr × List Wr), ds[i]? = some q → 1 ≤ q.1.phase ∧ q.1.phase ≤ 3 := fun i q hq => (drOk_iff.1 (hdr q (List.mem_of_getElem? hq))).2.1
  obtain ⟨la, ln0, lc, llo, lhi, lcs, ma, mc, mlo, mhi, mcs, ka, kc, klo, khi, kcs, ea, ec, elo, ehi, ecs, hln, M, hD, hM, hK0, hEn⟩ := W
  subst hln
  refine calls_enter Try.func26 rfl 224 rfl rfl ?_; intro a S
  refine wp_seq ?_
  skip
  refine wp_region_lit ?_
  refine st_box S M rfl rfl rfl #[_, _, _, _, _, _, _, _, _, _, _, _, _, _, _, _, _, _, _, _, _, _, _, _] rfl ?_; clear S M a; intro a w1 bX S M hB
  refine nxC ?_
  refine wp_scope_fwd (rest := _) 0 (fun a w' => ∃ (k : Nat) (q : Dr × List Wr) (q2 : Dr), Sees 224 a [(0, .pointer (some ⟨b, 0, none⟩)), (4, .int .i64 (k : Int))] ∧ ds[k]? = some q ∧ q.1.name = m.name ∧ MacE w0 w' H b (ds.set k (q2, q.2)) [] [] [] es ∧ ((q.1.phase = 1 ∧ m.kind = 5 ∧ m.yes = true ∧ bitK q.1.shards m.frm.toNat = true ∧ q2 = { q.1 with yes := orV q.1.yes (bitM m) }) ∨ (q.1.phase = 3 ∧ m.kind = 7 ∧ bitK q.1.shards m.frm.toNat = true ∧ q2 = { q.1 with acks := orV q.1.acks (bitM m) }))) rfl ?_ ?_
  · skip
    refine wp_seq ?_
    refine wp_regionK [] #[false, false, false, false, false, false, false, false, false, false, false, false, false] rfl M (by kernel_rfl) ?_; clear M; intro w2 M
    refine k_pure (listed' := #[true, false, false, false, false, false, false, false, false, false, false, false, false]) 0 S rfl rfl rfl rfl (by kernel_rfl) rfl (fun _ d _ _ _ h => by cases d <;> exact h) (fun w => y_move S rfl) ?_; clear S a; intro a S
    refine k_pure (listed' := #[true, true, false, false, false, false, false, false, false, false, false, false, false]) 1 S rfl rfl rfl rfl (by kernel_rfl) rfl (fun _ d _ _ _ h => by cases d <;> exact h) (fun w => y_nilCheck S rfl) ?_; clear S a; intro a S
    refine k_pure (listed' := #[true, true, true, false, false, false, false, false, false, false, false, false, false]) 2 S rfl rfl rfl rfl (by kernel_rfl) rfl (fun _ d _ _ _ h => by cases d <;> exact h) (fun w => y_fieldAddr (k := 0) S (by kernel_rfl) rfl) ?_; clear S a; intro a S
    refine k_pure (listed' := #[true, true, true, true, false, false, false, false, false, false, false, false, false]) 3 S rfl rfl rfl rfl (by kernel_rfl) rfl (fun _ d _ _ _ h => by cases d <;> exact h) (fun w => y_fieldAddr (k := 0) S (by kernel_rfl) rfl) ?_; clear S a; intro a S
    refine k_read (listed' := #[true, true, true, true, true, false, false, false, false, false, false, false, false]) 4 S rfl rfl rfl rfl (by kernel_rfl) rfl (fun _ d _ _ _ h => by cases d <;> exact h) (fun w hW => have M := M.grow hW; y_load S (by kernel_rfl) rfl (M.cell 1 rfl rfl)) ?_; clear S a; intro a S
    refine k_pure (listed' := #[true, true, true, true, true, true, false, false, false, false, false, false, false]) 5 S rfl rfl rfl rfl (by kernel_rfl) rfl (fun _ d _ _ _ h => by cases d <;> exact h) (fun w => y_fieldAddr (k := 5) S (by kernel_rfl) rfl) ?_; clear S a; intro a S
    refine k_read (listed' := #[true, true, true, true, true, true, true, false, false, false, false, false, false]) 6 S rfl rfl rfl rfl (by kernel_rfl) rfl (fun _ d _ _ _ h => by cases d <;> exact h) (fun w hW => have M := M.grow hW; y_loadAgg (cs := [_, _, _]) S (by kernel_rfl) rfl rfl (M.cellsAt (k := 3) 0 rfl rfl)) ?_; clear S a; intro a S
    refine k_one (listed' := #[true, true, true, true, true, true, true, true, false, false, false, false, false]) 7 rfl (by kernel_rfl) rfl ?_
    refine st_call (xs := [(Operand.tmp 17), (Operand.tmp 19), (Operand.func 39)]) S (enters_of Try.func38 (by decide) rfl) rfl rfl rfl (find_any la lc lcs ds m.name _ ((hD.rowC M (List.mem_of_getElem? (show _[2]? = _ from rfl)) (fun e he => by simp [he]) (by unfold maxLen; omega)).wide (Nat.zero_le _) (Nat.le_refl _)) hri (by omega)) ?_
    rintro _ w3 ⟨k, y, rfl, hK, hkl, hy⟩; refine ⟨_, rfl, ?_⟩; clear S a; intro a S; replace M := M.grow hK
    refine wpList_nil ?_; refine then_normal ?_; refine ⟨fun _ => hK, ?_⟩
    refine k_pure (listed' := #[true, true, true, true, true, true, true, true, true, false, false, false, false]) 8 S rfl rfl rfl rfl (by kernel_rfl) rfl (fun _ d _ _ _ h => by cases d <;> exact h) (fun w => y_move S rfl) ?_; clear S a; intro a S
    refine k_pure (listed' := #[true, true, true, true, true, true, true, true, true, true, false, false, false]) 9 S rfl rfl rfl rfl (by kernel_rfl) rfl (fun _ d _ _ _ h => by cases d <;> exact h) (fun w => y_extract S rfl rfl) ?_; clear S a; intro a S
    refine k_pure (listed' := #[true, true, true, true, true, true, true, true, true, true, true, false, false]) 10 S rfl rfl rfl rfl (by kernel_rfl) rfl (fun _ d _ _ _ h => by cases d <;> exact h) (fun w => y_extract S rfl rfl) ?_; clear S a; intro a S
    refine k_pure (listed' := #[true, true, true, true, true, true, true, true, true, true, true, true, false]) 11 S rfl rfl rfl rfl (by kernel_rfl) rfl (fun _ d _ _ _ h => by cases d <;> exact h) (fun w => y_assign S rfl) ?_; clear S a; intro a S
    refine k_pure (listed' := #[true, true, true, true, true, true, true, true, true, true, true, true, true]) 12 S rfl rfl rfl rfl (by kernel_rfl) rfl (fun _ d _ _ _ h => by cases d <;> exact h) (fun w => y_assign S rfl) ?_; clear S a; intro a S
    refine k_end (by kernel_rfl) ?_
    refine nxE ?_
    refine st_run [2, 1] S M rfl (by kernel_rfl) ?_; clear S a; intro a S
    (first | refine st_y S rfl rfl rfl (y_shlN S rfl rfl (by omega) (by exact shl_bd (by omega))) ?_ | refine st_y S rfl rfl rfl (y_shl S rfl rfl (by omega)) ?_); clear S a; intro a S
    refine st_go [1, 1, 1] S rfl (by kernel_rfl) ?_; clear S a; intro a S
    replace S := S.sub [(0, _), (1, _), (3, _), (4, _), (5, _), (6, _), (7, _), (8, _)] rfl
    refine nxC ?_
    refine wp_cut (fun a w' => ∃ ph ou, Sees 224 a [(0, .pointer (some ⟨b, 0, none⟩)), (3, .pointer (some ⟨bX, 0, none⟩)), (4, .int .i64 (k : Int)), (6, .int .i64 (bitM m)), (7, .int .i8 ph), (8, .bool ou)] ∧ MacE w0 w' (.blk bX (m.cells ml) 36 :: H) b ds [] [] [] es ∧ ((∃ q, ds[k]? = some q ∧ q.1.name = m.name ∧ ph = q.1.phase ∧ ou = bitK q.1.shards m.frm.toNat) ∨ ((∀ (i : Nat) (q : Dr × List Wr), ds[i]? = some q → q.1.name ≠ m.name) ∧ ph = 0 ∧ ou = false))) ?_ ?_
    · skip
      refine nxD ?_
      refine st_go [1] S rfl (by kernel_rfl) ?_; clear S a; intro a S
      refine nxC ?_
      refine st_tils (t := 26) S rfl ?_ ?_
      · clear S; intro h26 S
        refine st_condF S rfl ?_
        refine wp_skip ?_
        refine then_normal ?_
        first
          | (refine ⟨q.1.phase, _, S.sub _ rfl, ⟨la, ds.length, lc, llo, lhi, lcs, ma, mc, mlo, mhi, mcs, ka, kc, klo, khi, kcs, ea, ec, elo, ehi, ecs, rfl, M.perm perm5, hD, hM, hK0, hEn⟩, .inl ⟨q, hq, hqn, rfl, ?_⟩⟩
             rfl)
          | exact ⟨0, false, S.sub _ rfl, ⟨la, ds.length, lc, llo, lhi, lcs, ma, mc, mlo, mhi, mcs, ka, kc, klo, khi, kcs, ea, ec, elo, ehi, ecs, rfl, M.perm perm5, hD, hM, hK0, hEn⟩, .inr ⟨by
              rcases hy with ⟨h, -⟩ | ⟨-, h⟩
              · exfalso; rw [h] at h26; cases h26
              · exact h, rfl, rfl⟩⟩
      clear S; intro h26 S
      refine st_condT S rfl ?_
      obtain ⟨q, hq, hqn⟩ : ∃ q, ds[k]? = some q ∧ q.1.name = m.name := by
        rcases hy with ⟨-, h⟩ | ⟨h, -⟩
        · exact h
        · exfalso; rw [h] at h26; cases h26
      have hkl2 := (List.getElem?_eq_some_iff.1 hq).1
      obtain ⟨dl, hrow0, hdw⟩ := hD.at hq
      obtain ⟨da, dc, rfl, -⟩ := hdw.form
      have hrow : (lcs.drop (k * 10)).take 10 = (q.1.cells (.slice da q.2.length dc)).toList := hrow0
      have hcl : lcs.length = ds.length * 10 := hD.1
      refine wp_quiet M (by kernel_rfl) (by kernel_rfl) ?_
      refine qt_y S rfl rfl rfl (fun w M => y_move S rfl) ?_; clear S a; intro a S
      refine qt_y S rfl rfl rfl (fun w M => y_nilCheck S rfl) ?_; clear S a; intro a S
      refine qt_y S rfl rfl rfl (fun w M => y_fieldAddr (k := 0) S (by kernel_rfl) rfl) ?_; clear S a; intro a S
      refine qt_y S rfl rfl rfl (fun w M => y_fieldAddr (k := 0) S (by kernel_rfl) rfl) ?_; clear S a; intro a S
      refine qt_y S rfl rfl rfl (fun w M => y_load S (by kernel_rfl) rfl (M.cell 1 rfl rfl)) ?_; clear S a; intro a S
      refine qt_y S rfl rfl rfl (fun w M => y_move S rfl) ?_; clear S a; intro a S
      refine qt_y S rfl rfl rfl (fun w M => y_indexR (e := 59) (sz := 10) S (by kernel_rfl) rfl (M.readRow 2 rfl (by unfold maxLen; omega)) rfl (by first | omega | (simp; done) | (simp; omega))) ?_; clear S a; intro a S
      try simp only [Int.toNat_natCast, Nat.mul_one, Nat.zero_add] at S
      refine qt_y S rfl rfl rfl (fun w M => y_fieldAddr (k := 3) S (by kernel_rfl) rfl) ?_; clear S a; intro a S
      refine qt_y S rfl rfl rfl (fun w M => y_load S (by kernel_rfl) rfl ((M.readRow 2 rfl (by unfold maxLen; omega)).at_.row (i := k) hrow rfl 3 (by show 3 < 10; omega))) ?_; clear S a; intro a S
      refine qt_y S rfl rfl rfl (fun w M => y_move S rfl) ?_; clear S a; intro a S
      refine qt_y S rfl rfl rfl (fun w M => y_nilCheck S rfl) ?_; clear S a; intro a S
      refine qt_y S rfl rfl rfl (fun w M => y_fieldAddr (k := 0) S (by kernel_rfl) rfl) ?_; clear S a; intro a S
      refine qt_y S rfl rfl rfl (fun w M => y_fieldAddr (k := 0) S (by kernel_rfl) rfl) ?_; clear S a; intro a S
      refine qt_y S rfl rfl rfl (fun w M => y_load S (by kernel_rfl) rfl (M.cell 1 rfl rfl)) ?_; clear S a; intro a S
      refine qt_y S rfl rfl rfl (fun w M => y_move S rfl) ?_; clear S a; intro a S
      refine qt_y S rfl rfl rfl (fun w M => y_indexR (e := 59) (sz := 10) S (by kernel_rfl) rfl (M.readRow 2 rfl (by unfold maxLen; omega)) rfl (by first | omega | (simp; done) | (simp; omega))) ?_; clear S a; intro a S
      try simp only [Int.toNat_natCast, Nat.mul_one, Nat.zero_add] at S
      refine qt_y S rfl rfl rfl (fun w M => y_fieldAddr (k := 4) S (by kernel_rfl) rfl) ?_; clear S a; intro a S
      refine qt_y S rfl rfl rfl (fun w M => y_load S (by kernel_rfl) rfl ((M.readRow 2 rfl (by unfold maxLen; omega)).at_.row (i := k) hrow rfl 4 (by show 4 < 10; omega))) ?_; clear S a; intro a S
      refine qt_y S rfl rfl rfl (fun w M => y_fieldAddr (k := 1) S (by kernel_rfl) rfl) ?_; clear S a; intro a S
      refine qt_y S rfl rfl rfl (fun w M => y_load S (by kernel_rfl) rfl (M.cell 0 rfl rfl)) ?_; clear S a; intro a S
      (first | refine qt_y S rfl rfl rfl (fun w M => y_shrN S rfl rfl (by omega)) ?_ | refine qt_y S rfl rfl rfl (fun w M => y_shr S rfl rfl (by omega)) ?_); clear S a; intro a S
      refine qt_y S rfl rfl rfl (fun w M => y_int S rfl rfl rfl) ?_; clear S a; intro a S
      refine qt_y S rfl rfl rfl (fun w M => y_int S rfl rfl rfl) ?_; clear S a; intro a S
      refine qt_y S rfl rfl rfl (fun w M => y_assign S rfl) ?_; clear S a; intro a S
      refine qt_y S rfl rfl rfl (fun w M => y_assign S rfl) ?_; clear S a; intro a S
      refine wpQuiet_nil ?_; clear M; intro w4 M
      replace S := S.sub [(0, _), (1, _), (3, _), (4, _), (5, _), (6, _), (26, _), (7, _), (8, _)] rfl
      refine then_normal ?_
      first
        | (refine ⟨q.1.phase, _, S.sub _ rfl, ⟨la, ds.length, lc, llo, lhi, lcs, ma, mc, mlo, mhi, mcs, ka, kc, klo, khi, kcs, ea, ec, elo, ehi, ecs, rfl, M.perm perm5, hD, hM, hK0, hEn⟩, .inl ⟨q, hq, hqn, rfl, ?_⟩⟩
           rfl)
        | exact ⟨0, false, S.sub _ rfl, ⟨la, ds.length, lc, llo, lhi, lcs, ma, mc, mlo, mhi, mcs, ka, kc, klo, khi, kcs, ea, ec, elo, ehi, ecs, rfl, M.perm perm5, hD, hM, hK0, hEn⟩, .inr ⟨by
            rcases hy with ⟨h, -⟩ | ⟨-, h⟩
            · exfalso; rw [h] at h26; cases h26
            · exact h, rfl, rfl⟩⟩
    clear S a M; intro a wc
    clear hD hM hK0 hEn
    rintro ⟨ph, ou, S, W1, hph⟩
    have W2 := W1
    obtain ⟨la, ln, lc, llo, lhi, lcs, ma, mc, mlo, mhi, mcs, ka, kc, klo, khi, kcs, ea, ec, elo, ehi, ecs, hln, M, hD, hM, hK0, hEn⟩ := W2
    subst hln
    refine wp_seq ?_
    refine wp_quiet M (by kernel_rfl) (by kernel_rfl) ?_
    refine qt_y S rfl rfl rfl (fun w M => y_fieldAddr (k := 0) S (by kernel_rfl) rfl) ?_; clear S a; intro a S
    refine qt_y S rfl rfl rfl (fun w M => y_load S (by kernel_rfl) rfl (M.cell 5 rfl rfl)) ?_; clear S a; intro a S
    refine qt_y S rfl rfl rfl (fun w M => y_int S rfl rfl rfl) ?_; clear S a; intro a S
    refine qt_y S rfl rfl rfl (fun w M => y_fieldAddr (k := 0) S (by kernel_rfl) rfl) ?_; clear S a; intro a S
    refine qt_y S rfl rfl rfl (fun w M => y_load S (by kernel_rfl) rfl (M.cell 5 rfl rfl)) ?_; clear S a; intro a S
    refine qt_y S rfl rfl rfl (fun w M => y_int S rfl rfl rfl) ?_; clear S a; intro a S
    refine qt_y S rfl rfl rfl (fun w M => y_assign S rfl) ?_; clear S a; intro a S
    refine qt_y S rfl rfl rfl (fun w M => y_assign S rfl) ?_; clear S a; intro a S
    refine wpQuiet_nil ?_; clear M; intro w5 M
    refine then_normal ?_
    refine wp_seq ?_
    refine wp_block ?_
    refine wp_elsecut (HearI 224 w0 H b bX m ml ds es k (fun ph ou => ¬ (ph = 3 ∧ asksM m))) ?_ ?_
    · clear S M a; intro a wc
      clear hD hM hK0 hEn hph
      rintro ⟨ph, ou, S, W1, hph, hno⟩
      obtain ⟨la, ln, lc, llo, lhi, lcs, ma, mc, mlo, mhi, mcs, ka, kc, klo, khi, kcs, ea, ec, elo, ehi, ecs, hln, M, hD, hM, hK0, hEn⟩ := W1
      subst hln
      refine wp_elsecut (HearI 224 w0 H b bX m ml ds es k (fun ph ou => ¬ (ph = 3 ∧ asksM m) ∧ ¬ (ph = 0 ∧ asksM m))) ?_ ?_
      · clear S M a; intro a wc
        clear hD hM hK0 hEn hph hno
        rintro ⟨ph, ou, S, W1, hph, hno⟩
        obtain ⟨la, ln, lc, llo, lhi, lcs, ma, mc, mlo, mhi, mcs, ka, kc, klo, khi, kcs, ea, ec, elo, ehi, ecs, hln, M, hD, hM, hK0, hEn⟩ := W1
        subst hln
        refine wp_elsecut (HearI 224 w0 H b bX m ml ds es k (fun ph ou => ¬ (ph = 3 ∧ asksM m) ∧ ¬ (ph = 0 ∧ asksM m) ∧ ¬ (ph = 1 ∧ m.kind = 5 ∧ ou = true ∧ m.yes = false))) ?_ ?_
        · clear S M a; intro a wc
          clear hD hM hK0 hEn hph hno
          rintro ⟨ph, ou, S, W1, hph, hno⟩
          obtain ⟨la, ln, lc, llo, lhi, lcs, ma, mc, mlo, mhi, mcs, ka, kc, klo, khi, kcs, ea, ec, elo, ehi, ecs, hln, M, hD, hM, hK0, hEn⟩ := W1
          subst hln
          refine wp_elsecut (HearI 224 w0 H b bX m ml ds es k (fun ph ou => ¬ (ph = 3 ∧ asksM m) ∧ ¬ (ph = 0 ∧ asksM m) ∧ ¬ (ph = 1 ∧ m.kind = 5 ∧ ou = true ∧ m.yes = false) ∧ ¬ (ph = 1 ∧ m.kind = 5 ∧ ou = true))) ?_ ?_
          · clear S M a; intro a wc
            clear hD hM hK0 hEn hph hno
            rintro ⟨ph, ou, S, W1, hph, hno⟩
            obtain ⟨la, ln, lc, llo, lhi, lcs, ma, mc, mlo, mhi, mcs, ka, kc, klo, khi, kcs, ea, ec, elo, ehi, ecs, hln, M, hD, hM, hK0, hEn⟩ := W1
            subst hln
            refine nxD ?_
            refine st_go [1, 1, 1] S rfl (by kernel_rfl) ?_; clear S a; intro a S
            refine st_fi (t := 134) S rfl ?_ ?_
            · clear S; intro h134 S
              refine st_go [0, 0, 0, 1, 1, 0, 1, 1] S rfl (by kernel_rfl) ?_; clear S a; intro a S
              refine nxC ?_
              refine st_condF S rfl ?_
              refine wp_skip ?_
              refine block_normal ?_
              refine then_normal ?_
              refine wp_seq ?_
              refine wp_ret ?_
              refine then_ret ?_
              refine sj_ret ?_
              refine end_none S rfl ?_
              exact ⟨rfl, _, es, hearP_nil (k := k) hph hno.1 hno.2.1 hno.2.2.2 (by simp_all), MacE.less (H := .blk bX (m.cells ml) 36 :: H) ⟨la, ds.length, lc, llo, lhi, lcs, ma, mc, mlo, mhi, mcs, ka, kc, klo, khi, kcs, ea, ec, elo, ehi, ecs, rfl, M, hD, hM, hK0, hEn⟩ (.cons _ (List.Sublist.refl _))⟩
            clear S; intro h134 S
            refine st_run [1, 6, 1, 1, 1] S M rfl (by kernel_rfl) ?_; clear S a; intro a S
            refine st_fi (t := 139) S rfl ?_ ?_
            · clear S; intro h139 S
              refine st_go [0, 1, 1] S rfl (by kernel_rfl) ?_; clear S a; intro a S
              refine nxC ?_
              refine st_condF S rfl ?_
              refine wp_skip ?_
              refine block_normal ?_
              refine then_normal ?_
              refine wp_seq ?_
              refine wp_ret ?_
              refine then_ret ?_
              refine sj_ret ?_
              refine end_none S rfl ?_
              exact ⟨rfl, _, es, hearP_nil (k := k) hph hno.1 hno.2.1 hno.2.2.2 (by simp_all), MacE.less (H := .blk bX (m.cells ml) 36 :: H) ⟨la, ds.length, lc, llo, lhi, lcs, ma, mc, mlo, mhi, mcs, ka, kc, klo, khi, kcs, ea, ec, elo, ehi, ecs, rfl, M, hD, hM, hK0, hEn⟩ (.cons _ (List.Sublist.refl _))⟩
            clear S; intro h139 S
            refine st_go [1, 1, 1] S rfl (by kernel_rfl) ?_; clear S a; intro a S
            refine nxC ?_
            refine st_fi (t := 131) S rfl ?_ ?_
            · clear S; intro h131 S
              refine st_condF S rfl ?_
              refine wp_skip ?_
              refine block_normal ?_
              refine then_normal ?_
              refine wp_seq ?_
              refine wp_ret ?_
              refine then_ret ?_
              refine sj_ret ?_
              refine end_none S rfl ?_
              exact ⟨rfl, _, es, hearP_nil (k := k) hph hno.1 hno.2.1 hno.2.2.2 (by simp_all), MacE.less (H := .blk bX (m.cells ml) 36 :: H) ⟨la, ds.length, lc, llo, lhi, lcs, ma, mc, mlo, mhi, mcs, ka, kc, klo, khi, kcs, ea, ec, elo, ehi, ecs, rfl, M, hD, hM, hK0, hEn⟩ (.cons _ (List.Sublist.refl _))⟩
            clear S; intro h131 S
            refine st_condT S rfl ?_
            refine wp_seq ?_
            obtain ⟨q, hq, hqn, hpq, hoq⟩ : ∃ q, ds[k]? = some q ∧ q.1.name = m.name ∧ ph = q.1.phase ∧ ou = bitK q.1.shards m.frm.toNat := by
              rcases hph with h | ⟨-, h, -⟩
              · exact h
              · exfalso; omega
            have hkl2 := (List.getElem?_eq_some_iff.1 hq).1
            obtain ⟨dl, hrow0, hdw⟩ := hD.at hq
            obtain ⟨da, dc, rfl, -⟩ := hdw.form
            have hrow : (lcs.drop (k * 10)).take 10 = (q.1.cells (.slice da q.2.length dc)).toList := hrow0
            have hcl : lcs.length = ds.length * 10 := hD.1
            refine wp_region_lit ?_
            refine st_run [1, 1, 1, 1, 1, 1] S M rfl (by kernel_rfl) ?_; clear S a; intro a S
            refine st_y S rfl rfl rfl (y_indexR (e := 59) (sz := 10) S (by kernel_rfl) rfl (M.readRow 1 rfl (by unfold maxLen; omega)) rfl (by first | omega | (simp; done) | (simp; omega))) ?_; clear S a; intro a S
            try simp only [Int.toNat_natCast, Nat.mul_one, Nat.zero_add] at S
            refine st_go [7] S rfl (by kernel_rfl) ?_; clear S a; intro a S
            refine st_y S rfl rfl rfl (y_load S (by kernel_rfl) rfl ((M.readRow 1 rfl (by unfold maxLen; omega)).at_.row (i := k) hrow rfl 6 (by show 6 < 10; omega))) ?_; clear S a; intro a S
            refine st_go [1] S rfl (by kernel_rfl) ?_; clear S a; intro a S
            (first | refine st_y S rfl rfl rfl (y_orN S rfl rfl (by omega) (by omega)) ?_ | refine st_y S rfl rfl rfl (y_int S rfl rfl rfl) ?_); clear S a; intro a S
            refine st_y S rfl rfl rfl (y_indexR (e := 59) (sz := 10) S (by kernel_rfl) rfl (M.readRow 1 rfl (by unfold maxLen; omega)) rfl (by first | omega | (simp; done) | (simp; omega))) ?_; clear S a; intro a S
            try simp only [Int.toNat_natCast, Nat.mul_one, Nat.zero_add] at S
            refine st_go [7] S rfl (by kernel_rfl) ?_; clear S a; intro a S
            refine st_storeRow (v := .slice la ds.length lc) (sz := 10) (m := ds.length) (j := k * 10 + 6) (us := [.int .i64 (orV q.1.acks (bitM m))]) S M 1 rfl (by kernel_rfl) rfl rfl (by first | rfl | (simp only [Int.toNat_natCast]; omega)) rfl rfl rfl rfl rfl (by omega) hcl (by show k * 10 + 6 + 1 ≤ _; omega) ?_; clear M; intro wz lo9 hi9 M
            simp only [List.eraseIdx_cons_succ, List.eraseIdx_cons_zero] at M
            have hD2 : BkG drS (putL lcs (k * 10 + 6) [.int .i64 (orV q.1.acks (bitM m))]) (ds.set k ({ q.1 with acks := orV q.1.acks (bitM m) }, q.2)) es := by
              rw [put_cell (by omega) hrow (by omega)]; exact hD.set (q := (({ q.1 with acks := orV q.1.acks (bitM m) } : Dr), q.2)) hkl2 hdw
            have hlen : (ds.set k (({ q.1 with acks := orV q.1.acks (bitM m) } : Dr), q.2)).length = ds.length := List.length_set
            replace S := S.sub [(0, _), (3, _), (4, _), (6, _), (7, _), (8, _), (9, _), (10, _), (131, _)] rfl
            refine nxC ?_
            refine wp_goto ?_
            refine block_goto ?_
            refine then_goto ?_
            refine sj_goto ?_
            replace M := M.front 1 rfl
            simp only [List.eraseIdx_cons_succ, List.eraseIdx_cons_zero] at M
            first
              | exact ⟨k, q, _, S.sub _ rfl, hq, hqn, MacE.less (H := .blk bX (m.cells ml) 36 :: H) ⟨la, ds.length, lc, lo9, hi9, _, ma, mc, mlo, mhi, mcs, ka, kc, klo, khi, kcs, ea, ec, elo, ehi, ecs, hlen.symm, by rw [hlen]; exact M, hD2, hM, hK0, hEn⟩ (.cons _ (List.Sublist.refl _)), .inl ⟨by omega, by omega, by simp_all, by rw [← hoq]; assumption, rfl⟩⟩
              | exact ⟨k, q, _, S.sub _ rfl, hq, hqn, MacE.less (H := .blk bX (m.cells ml) 36 :: H) ⟨la, ds.length, lc, lo9, hi9, _, ma, mc, mlo, mhi, mcs, ka, kc, klo, khi, kcs, ea, ec, elo, ehi, ecs, hlen.symm, by rw [hlen]; exact M, hD2, hM, hK0, hEn⟩ (.cons _ (List.Sublist.refl _)), .inr ⟨by omega, by omega, by rw [← hoq]; assumption, rfl⟩⟩
          intro hE14
          refine nxD ?_
          refine st_go [1, 1, 1] S rfl (by kernel_rfl) ?_; clear S a; intro a S
          refine st_fi (t := 112) S rfl ?_ ?_
          · clear S; intro h112 S
            refine st_go [0, 1, 1, 0, 1, 1] S rfl (by kernel_rfl) ?_; clear S a; intro a S
            refine nxC ?_
            refine st_condF S rfl ?_
            refine hE14 _ _ ?_
            refine ⟨ph, ou, S.sub _ rfl, ⟨la, ds.length, lc, llo, lhi, lcs, ma, mc, mlo, mhi, mcs, ka, kc, klo, khi, kcs, ea, ec, elo, ehi, ecs, rfl, M, hD, hM, hK0, hEn⟩, hph, ?_⟩
            clear S M hD hM hK0 hEn
            simp only [asksM] at *
            (simp_all <;> omega)
          clear S; intro h112 S
          refine st_go [1, 1, 1] S rfl (by kernel_rfl) ?_; clear S a; intro a S
          refine st_fi (t := 115) S rfl ?_ ?_
          · clear S; intro h115 S
            refine st_go [0, 1, 1] S rfl (by kernel_rfl) ?_; clear S a; intro a S
            refine nxC ?_
            refine st_condF S rfl ?_
            refine hE14 _ _ ?_
            refine ⟨ph, ou, S.sub _ rfl, ⟨la, ds.length, lc, llo, lhi, lcs, ma, mc, mlo, mhi, mcs, ka, kc, klo, khi, kcs, ea, ec, elo, ehi, ecs, rfl, M, hD, hM, hK0, hEn⟩, hph, ?_⟩
            clear S M hD hM hK0 hEn
            simp only [asksM] at *
            (simp_all <;> omega)
          clear S; intro h115 S
          refine st_go [1, 1, 1] S rfl (by kernel_rfl) ?_; clear S a; intro a S
          refine nxC ?_
          refine st_fi (t := 109) S rfl ?_ ?_
          · clear S; intro h109 S
            refine st_condF S rfl ?_
            refine hE14 _ _ ?_
            refine ⟨ph, ou, S.sub _ rfl, ⟨la, ds.length, lc, llo, lhi, lcs, ma, mc, mlo, mhi, mcs, ka, kc, klo, khi, kcs, ea, ec, elo, ehi, ecs, rfl, M, hD, hM, hK0, hEn⟩, hph, ?_⟩
            clear S M hD hM hK0 hEn
            simp only [asksM] at *
            (simp_all <;> omega)
          clear S; intro h109 S
          refine st_condT S rfl ?_
          refine wp_seq ?_
          obtain ⟨q, hq, hqn, hpq, hoq⟩ : ∃ q, ds[k]? = some q ∧ q.1.name = m.name ∧ ph = q.1.phase ∧ ou = bitK q.1.shards m.frm.toNat := by
            rcases hph with h | ⟨-, h, -⟩
            · exact h
            · exfalso; omega
          have hkl2 := (List.getElem?_eq_some_iff.1 hq).1
          obtain ⟨dl, hrow0, hdw⟩ := hD.at hq
          obtain ⟨da, dc, rfl, -⟩ := hdw.form
          have hrow : (lcs.drop (k * 10)).take 10 = (q.1.cells (.slice da q.2.length dc)).toList := hrow0
          have hcl : lcs.length = ds.length * 10 := hD.1
          refine wp_region_lit ?_
          refine st_run [1, 1, 1, 1, 1, 1] S M rfl (by kernel_rfl) ?_; clear S a; intro a S
          refine st_y S rfl rfl rfl (y_indexR (e := 59) (sz := 10) S (by kernel_rfl) rfl (M.readRow 1 rfl (by unfold maxLen; omega)) rfl (by first | omega | (simp; done) | (simp; omega))) ?_; clear S a; intro a S
          try simp only [Int.toNat_natCast, Nat.mul_one, Nat.zero_add] at S
          refine st_go [6] S rfl (by kernel_rfl) ?_; clear S a; intro a S
          refine st_y S rfl rfl rfl (y_load S (by kernel_rfl) rfl ((M.readRow 1 rfl (by unfold maxLen; omega)).at_.row (i := k) hrow rfl 5 (by show 5 < 10; omega))) ?_; clear S a; intro a S
          refine st_go [1] S rfl (by kernel_rfl) ?_; clear S a; intro a S
          (first | refine st_y S rfl rfl rfl (y_orN S rfl rfl (by omega) (by omega)) ?_ | refine st_y S rfl rfl rfl (y_int S rfl rfl rfl) ?_); clear S a; intro a S
          refine st_y S rfl rfl rfl (y_indexR (e := 59) (sz := 10) S (by kernel_rfl) rfl (M.readRow 1 rfl (by unfold maxLen; omega)) rfl (by first | omega | (simp; done) | (simp; omega))) ?_; clear S a; intro a S
          try simp only [Int.toNat_natCast, Nat.mul_one, Nat.zero_add] at S
          refine st_go [6] S rfl (by kernel_rfl) ?_; clear S a; intro a S
          refine st_storeRow (v := .slice la ds.length lc) (sz := 10) (m := ds.length) (j := k * 10 + 5) (us := [.int .i64 (orV q.1.yes (bitM m))]) S M 1 rfl (by kernel_rfl) rfl rfl (by first | rfl | (simp only [Int.toNat_natCast]; omega)) rfl rfl rfl rfl rfl (by omega) hcl (by show k * 10 + 5 + 1 ≤ _; omega) ?_; clear M; intro wz lo9 hi9 M
          simp only [List.eraseIdx_cons_succ, List.eraseIdx_cons_zero] at M
          have hD2 : BkG drS (putL lcs (k * 10 + 5) [.int .i64 (orV q.1.yes (bitM m))]) (ds.set k ({ q.1 with yes := orV q.1.yes (bitM m) }, q.2)) es := by
            rw [put_cell (by omega) hrow (by omega)]; exact hD.set (q := (({ q.1 with yes := orV q.1.yes (bitM m) } : Dr), q.2)) hkl2 hdw
          have hlen : (ds.set k (({ q.1 with yes := orV q.1.yes (bitM m) } : Dr), q.2)).length = ds.length := List.length_set
          replace S := S.sub [(0, _), (3, _), (4, _), (6, _), (7, _), (8, _), (9, _), (10, _), (109, _)] rfl
          refine nxC ?_
          refine wp_goto ?_
          refine block_goto ?_
          refine then_goto ?_
          refine sj_goto ?_
          replace M := M.front 1 rfl
          simp only [List.eraseIdx_cons_succ, List.eraseIdx_cons_zero] at M
          first
            | exact ⟨k, q, _, S.sub _ rfl, hq, hqn, MacE.less (H := .blk bX (m.cells ml) 36 :: H) ⟨la, ds.length, lc, lo9, hi9, _, ma, mc, mlo, mhi, mcs, ka, kc, klo, khi, kcs, ea, ec, elo, ehi, ecs, hlen.symm, by rw [hlen]; exact M, hD2, hM, hK0, hEn⟩ (.cons _ (List.Sublist.refl _)), .inl ⟨by omega, by omega, by simp_all, by rw [← hoq]; assumption, rfl⟩⟩
            | exact ⟨k, q, _, S.sub _ rfl, hq, hqn, MacE.less (H := .blk bX (m.cells ml) 36 :: H) ⟨la, ds.length, lc, lo9, hi9, _, ma, mc, mlo, mhi, mcs, ka, kc, klo, khi, kcs, ea, ec, elo, ehi, ecs, hlen.symm, by rw [hlen]; exact M, hD2, hM, hK0, hEn⟩ (.cons _ (List.Sublist.refl _)), .inr ⟨by omega, by omega, by rw [← hoq]; assumption, rfl⟩⟩
        intro hE12
        refine nxD ?_
        refine st_go [1, 1, 1] S rfl (by kernel_rfl) ?_; clear S a; intro a S
        refine st_fi (t := 95) S rfl ?_ ?_
        · clear S; intro h95 S
          refine st_go [0, 1, 1, 0, 1, 1, 0, 0, 0, 1, 1] S rfl (by kernel_rfl) ?_; clear S a; intro a S
          refine nxC ?_
          refine st_condF S rfl ?_
          refine hE12 _ _ ?_
          refine ⟨ph, ou, S.sub _ rfl, ⟨la, ds.length, lc, llo, lhi, lcs, ma, mc, mlo, mhi, mcs, ka, kc, klo, khi, kcs, ea, ec, elo, ehi, ecs, rfl, M, hD, hM, hK0, hEn⟩, hph, ?_⟩
          clear S M hD hM hK0 hEn
          simp only [asksM] at *
          (simp_all <;> omega)
        clear S; intro h95 S
        refine st_go [1, 1, 1] S rfl (by kernel_rfl) ?_; clear S a; intro a S
        refine st_fi (t := 98) S rfl ?_ ?_
        · clear S; intro h98 S
          refine st_go [0, 1, 1, 0, 0, 0, 1, 1] S rfl (by kernel_rfl) ?_; clear S a; intro a S
          refine nxC ?_
          refine st_condF S rfl ?_
          refine hE12 _ _ ?_
          refine ⟨ph, ou, S.sub _ rfl, ⟨la, ds.length, lc, llo, lhi, lcs, ma, mc, mlo, mhi, mcs, ka, kc, klo, khi, kcs, ea, ec, elo, ehi, ecs, rfl, M, hD, hM, hK0, hEn⟩, hph, ?_⟩
          clear S M hD hM hK0 hEn
          simp only [asksM] at *
          (simp_all <;> omega)
        clear S; intro h98 S
        refine st_go [1, 1, 1] S rfl (by kernel_rfl) ?_; clear S a; intro a S
        refine st_fi (t := 101) S rfl ?_ ?_
        · clear S; intro h101 S
          refine st_go [0, 0, 0, 1, 1] S rfl (by kernel_rfl) ?_; clear S a; intro a S
          refine nxC ?_
          refine st_condF S rfl ?_
          refine hE12 _ _ ?_
          refine ⟨ph, ou, S.sub _ rfl, ⟨la, ds.length, lc, llo, lhi, lcs, ma, mc, mlo, mhi, mcs, ka, kc, klo, khi, kcs, ea, ec, elo, ehi, ecs, rfl, M, hD, hM, hK0, hEn⟩, hph, ?_⟩
          clear S M hD hM hK0 hEn
          simp only [asksM] at *
          (simp_all <;> omega)
        clear S; intro h101 S
        refine st_run [21, 6, 1, 1, 1] S M rfl (by kernel_rfl) ?_; clear S a; intro a S
        refine nxC ?_
        refine st_fi (t := 92) S rfl ?_ ?_
        · clear S; intro h92 S
          refine st_condF S rfl ?_
          refine hE12 _ _ ?_
          refine ⟨ph, ou, S.sub _ rfl, ⟨la, ds.length, lc, llo, lhi, lcs, ma, mc, mlo, mhi, mcs, ka, kc, klo, khi, kcs, ea, ec, elo, ehi, ecs, rfl, M, hD, hM, hK0, hEn⟩, hph, ?_⟩
          clear S M hD hM hK0 hEn
          simp only [asksM] at *
          (simp_all <;> omega)
        clear S; intro h92 S
        refine st_condT S rfl ?_
        obtain ⟨q, hq, hqn, hpq, hoq⟩ : ∃ q, ds[k]? = some q ∧ q.1.name = m.name ∧ ph = q.1.phase ∧ ou = bitK q.1.shards m.frm.toNat := by
          rcases hph with h | ⟨-, h, -⟩
          · exact h
          · exfalso; omega
        refine wp_region_lit ?_
        refine st_go [1, 1] S rfl (by kernel_rfl) ?_; clear S a; intro a S
        refine st_call (xs := [(Operand.tmp 106), (Operand.tmp 107)]) S (enters_of Try.func44 (by decide) rfl) rfl rfl rfl (abort_any (H := .blk bX (m.cells ml) 36 :: H) ⟨la, ds.length, lc, llo, lhi, lcs, ma, mc, mlo, mhi, mcs, ka, kc, klo, khi, kcs, ea, ec, elo, ehi, ecs, rfl, M, hD, hM, hK0, hEn⟩ k q hq (by omega) (by simp) (by simp)) ?_
        rintro _ w6 ⟨rfl, W3⟩; refine ⟨_, rfl, ?_⟩; clear S a; intro a S
        replace S := S.sub [(0, _), (3, _), (4, _), (6, _), (7, _), (8, _), (9, _), (10, _), (92, _)] rfl
        refine wpList_nil ?_
        refine block_normal ?_
        refine then_normal ?_
        refine wp_seq ?_
        refine wp_ret ?_
        refine then_ret ?_
        refine sj_ret ?_
        refine end_none S rfl ?_
        exact ⟨rfl, _, es, hearP_abort hq hqn (by omega) (by simp_all) (by rw [← hoq]; assumption) (by simp_all), W3.less (.cons _ (List.Sublist.refl _))⟩
      intro hE10
      refine nxD ?_
      refine st_go [1, 1, 1] S rfl (by kernel_rfl) ?_; clear S a; intro a S
      refine st_fi (t := 77) S rfl ?_ ?_
      · clear S; intro h77 S
        refine st_go [0, 0, 0, 0, 0, 0, 0, 0, 1, 1] S rfl (by kernel_rfl) ?_; clear S a; intro a S
        refine nxC ?_
        refine st_condF S rfl ?_
        refine hE10 _ _ ?_
        refine ⟨ph, ou, S.sub _ rfl, ⟨la, ds.length, lc, llo, lhi, lcs, ma, mc, mlo, mhi, mcs, ka, kc, klo, khi, kcs, ea, ec, elo, ehi, ecs, rfl, M, hD, hM, hK0, hEn⟩, hph, ?_⟩
        clear S M hD hM hK0 hEn
        simp only [asksM] at *
        (simp_all <;> omega)
      clear S; intro h77 S
      refine st_go [1, 1] S rfl (by kernel_rfl) ?_; clear S a; intro a S
      refine st_if (t := 79) S rfl ?_ ?_
      · clear S; intro h79 S
        refine st_go [0, 0, 0, 0, 0, 1, 1, 1] S rfl (by kernel_rfl) ?_; clear S a; intro a S
        refine nxC ?_
        refine st_condT S rfl ?_
        refine wp_region_lit ?_
        refine st_go [1, 6] S rfl (by kernel_rfl) ?_; clear S a; intro a S
        refine st_y S rfl rfl rfl (y_loadAgg (cs := [_, _, _]) S (by kernel_rfl) rfl rfl (M.cellsAt (k := 3) 5 rfl rfl)) ?_; clear S a; intro a S
        refine st_go [1] S rfl (by kernel_rfl) ?_; clear S a; intro a S
        refine st_call (xs := [(Operand.tmp 87), (Operand.tmp 89), (Operand.tmp 90), (Operand.const (Value.bool false))]) S (enters_of Try.func45 (by decide) rfl) rfl rfl rfl (decides_any (H := .blk bX (m.cells ml) 36 :: H) ⟨la, ds.length, lc, llo, lhi, lcs, ma, mc, mlo, mhi, mcs, ka, kc, klo, khi, kcs, ea, ec, elo, ehi, ecs, rfl, M, hD, hM, hK0, hEn⟩ m.name (bitM m) false (by simp)) ?_
        rintro _ w7 ⟨rfl, W3⟩; refine ⟨_, rfl, ?_⟩; clear S a; intro a S
        replace S := S.sub [(0, _), (3, _), (4, _), (6, _), (7, _), (8, _), (9, _), (10, _), (74, _)] rfl
        refine wpList_nil ?_
        refine block_normal ?_
        refine then_normal ?_
        refine wp_seq ?_
        refine wp_ret ?_
        refine then_ret ?_
        refine sj_ret ?_
        refine end_none S rfl ?_
        exact ⟨rfl, _, es, hearP_no (k := k) hph hph1 (by omega) (by simp only [asksM]; simp_all), W3.less (.cons _ (List.Sublist.refl _))⟩
      clear S; intro h79 S
      refine st_go [1, 1] S rfl (by kernel_rfl) ?_; clear S a; intro a S
      refine st_fi (t := 81) S rfl ?_ ?_
      · clear S; intro h81 S
        refine st_go [0, 0, 1, 1, 1, 1] S rfl (by kernel_rfl) ?_; clear S a; intro a S
        refine nxC ?_
        refine st_condF S rfl ?_
        refine hE10 _ _ ?_
        refine ⟨ph, ou, S.sub _ rfl, ⟨la, ds.length, lc, llo, lhi, lcs, ma, mc, mlo, mhi, mcs, ka, kc, klo, khi, kcs, ea, ec, elo, ehi, ecs, rfl, M, hD, hM, hK0, hEn⟩, hph, ?_⟩
        clear S M hD hM hK0 hEn
        simp only [asksM] at *
        (simp_all <;> omega)
      clear S; intro h81 S
      refine st_run [21, 6, 1, 1, 1, 1] S M rfl (by kernel_rfl) ?_; clear S a; intro a S
      refine nxC ?_
      refine st_fi (t := 74) S rfl ?_ ?_
      · clear S; intro h74 S
        refine st_condF S rfl ?_
        refine hE10 _ _ ?_
        refine ⟨ph, ou, S.sub _ rfl, ⟨la, ds.length, lc, llo, lhi, lcs, ma, mc, mlo, mhi, mcs, ka, kc, klo, khi, kcs, ea, ec, elo, ehi, ecs, rfl, M, hD, hM, hK0, hEn⟩, hph, ?_⟩
        clear S M hD hM hK0 hEn
        simp only [asksM] at *
        (simp_all <;> omega)
      clear S; intro h74 S
      refine st_condT S rfl ?_
      refine wp_region_lit ?_
      refine st_go [1, 6] S rfl (by kernel_rfl) ?_; clear S a; intro a S
      refine st_y S rfl rfl rfl (y_loadAgg (cs := [_, _, _]) S (by kernel_rfl) rfl rfl (M.cellsAt (k := 3) 5 rfl rfl)) ?_; clear S a; intro a S
      refine st_go [1] S rfl (by kernel_rfl) ?_; clear S a; intro a S
      refine st_call (xs := [(Operand.tmp 87), (Operand.tmp 89), (Operand.tmp 90), (Operand.const (Value.bool false))]) S (enters_of Try.func45 (by decide) rfl) rfl rfl rfl (decides_any (H := .blk bX (m.cells ml) 36 :: H) ⟨la, ds.length, lc, llo, lhi, lcs, ma, mc, mlo, mhi, mcs, ka, kc, klo, khi, kcs, ea, ec, elo, ehi, ecs, rfl, M, hD, hM, hK0, hEn⟩ m.name (bitM m) false (by simp)) ?_
      rintro _ w8 ⟨rfl, W3⟩; refine ⟨_, rfl, ?_⟩; clear S a; intro a S
      replace S := S.sub [(0, _), (3, _), (4, _), (6, _), (7, _), (8, _), (9, _), (10, _), (74, _)] rfl
      refine wpList_nil ?_
      refine block_normal ?_
      refine then_normal ?_
      refine wp_seq ?_
      refine wp_ret ?_
      refine then_ret ?_
      refine sj_ret ?_
      refine end_none S rfl ?_
      exact ⟨rfl, _, es, hearP_no (k := k) hph hph1 (by omega) (by simp only [asksM]; simp_all), W3.less (.cons _ (List.Sublist.refl _))⟩
    intro hE8
    refine nxD ?_
    refine st_go [1, 1, 1] S rfl (by kernel_rfl) ?_; clear S a; intro a S
    refine st_fi (t := 59) S rfl ?_ ?_
    · clear S; intro h59 S
      refine st_go [0, 0, 0, 0, 0, 0, 0, 0, 1, 1] S rfl (by kernel_rfl) ?_; clear S a; intro a S
      replace S := S.sub [(0, _), (3, _), (4, _), (6, _), (7, _), (8, _), (9, _), (10, _), (56, _)] rfl
      refine nxC ?_
      refine st_condF S rfl ?_
      refine hE8 _ _ ?_
      refine ⟨ph, ou, S.sub _ rfl, ⟨la, ds.length, lc, llo, lhi, lcs, ma, mc, mlo, mhi, mcs, ka, kc, klo, khi, kcs, ea, ec, elo, ehi, ecs, rfl, M, hD, hM, hK0, hEn⟩, hph, ?_⟩
      clear S M hD hM hK0 hEn
      simp only [asksM] at *
      (simp_all <;> omega)
    clear S; intro h59 S
    refine st_go [1, 1] S rfl (by kernel_rfl) ?_; clear S a; intro a S
    refine st_if (t := 61) S rfl ?_ ?_
    · clear S; intro h61 S
      refine st_go [0, 0, 0, 0, 0, 1, 1, 1] S rfl (by kernel_rfl) ?_; clear S a; intro a S
      replace S := S.sub [(0, _), (3, _), (4, _), (6, _), (7, _), (8, _), (9, _), (10, _), (56, _)] rfl
      refine nxC ?_
      refine st_condT S rfl ?_
      refine wp_region_lit ?_
      refine st_go [1, 6] S rfl (by kernel_rfl) ?_; clear S a; intro a S
      refine st_y S rfl rfl rfl (y_loadAgg (cs := [_, _, _]) S (by kernel_rfl) rfl rfl (M.cellsAt (k := 3) 5 rfl rfl)) ?_; clear S a; intro a S
      refine st_go [1] S rfl (by kernel_rfl) ?_; clear S a; intro a S
      refine st_call (xs := [(Operand.tmp 69), (Operand.tmp 71), (Operand.tmp 72), (Operand.const (Value.bool true))]) S (enters_of Try.func45 (by decide) rfl) rfl rfl rfl (decides_any (H := .blk bX (m.cells ml) 36 :: H) ⟨la, ds.length, lc, llo, lhi, lcs, ma, mc, mlo, mhi, mcs, ka, kc, klo, khi, kcs, ea, ec, elo, ehi, ecs, rfl, M, hD, hM, hK0, hEn⟩ m.name (bitM m) true (by simp)) ?_
      rintro _ w9 ⟨rfl, W3⟩; refine ⟨_, rfl, ?_⟩; clear S a; intro a S
      refine wpList_nil ?_
      refine block_normal ?_
      refine then_normal ?_
      refine wp_seq ?_
      refine wp_ret ?_
      refine then_ret ?_
      refine sj_ret ?_
      refine end_none S rfl ?_
      exact ⟨rfl, _, es, hearP_yes (k := k) hph (by omega) (by simp only [asksM]; simp_all), W3.less (.cons _ (List.Sublist.refl _))⟩
    clear S; intro h61 S
    refine st_go [1, 1] S rfl (by kernel_rfl) ?_; clear S a; intro a S
    refine st_fi (t := 63) S rfl ?_ ?_
    · clear S; intro h63 S
      refine st_go [0, 0, 1, 1, 1, 1] S rfl (by kernel_rfl) ?_; clear S a; intro a S
      replace S := S.sub [(0, _), (3, _), (4, _), (6, _), (7, _), (8, _), (9, _), (10, _), (56, _)] rfl
      refine nxC ?_
      refine st_condF S rfl ?_
      refine hE8 _ _ ?_
      refine ⟨ph, ou, S.sub _ rfl, ⟨la, ds.length, lc, llo, lhi, lcs, ma, mc, mlo, mhi, mcs, ka, kc, klo, khi, kcs, ea, ec, elo, ehi, ecs, rfl, M, hD, hM, hK0, hEn⟩, hph, ?_⟩
      clear S M hD hM hK0 hEn
      simp only [asksM] at *
      (simp_all <;> omega)
    clear S; intro h63 S
    refine st_run [21, 6, 1, 1, 1, 1] S M rfl (by kernel_rfl) ?_; clear S a; intro a S
    replace S := S.sub [(0, _), (3, _), (4, _), (6, _), (7, _), (8, _), (9, _), (10, _), (56, _)] rfl
    refine nxC ?_
    refine st_fi (t := 56) S rfl ?_ ?_
    · clear S; intro h56 S
      refine st_condF S rfl ?_
      refine hE8 _ _ ?_
      refine ⟨ph, ou, S.sub _ rfl, ⟨la, ds.length, lc, llo, lhi, lcs, ma, mc, mlo, mhi, mcs, ka, kc, klo, khi, kcs, ea, ec, elo, ehi, ecs, rfl, M, hD, hM, hK0, hEn⟩, hph, ?_⟩
      clear S M hD hM hK0 hEn
      simp only [asksM] at *
      (simp_all <;> omega)
    clear S; intro h56 S
    refine st_condT S rfl ?_
    refine wp_region_lit ?_
    refine st_go [1, 6] S rfl (by kernel_rfl) ?_; clear S a; intro a S
    refine st_y S rfl rfl rfl (y_loadAgg (cs := [_, _, _]) S (by kernel_rfl) rfl rfl (M.cellsAt (k := 3) 5 rfl rfl)) ?_; clear S a; intro a S
    refine st_go [1] S rfl (by kernel_rfl) ?_; clear S a; intro a S
    refine st_call (xs := [(Operand.tmp 69), (Operand.tmp 71), (Operand.tmp 72), (Operand.const (Value.bool true))]) S (enters_of Try.func45 (by decide) rfl) rfl rfl rfl (decides_any (H := .blk bX (m.cells ml) 36 :: H) ⟨la, ds.length, lc, llo, lhi, lcs, ma, mc, mlo, mhi, mcs, ka, kc, klo, khi, kcs, ea, ec, elo, ehi, ecs, rfl, M, hD, hM, hK0, hEn⟩ m.name (bitM m) true (by simp)) ?_
    rintro _ w10 ⟨rfl, W3⟩; refine ⟨_, rfl, ?_⟩; clear S a; intro a S
    refine wpList_nil ?_
    refine block_normal ?_
    refine then_normal ?_
    refine wp_seq ?_
    refine wp_ret ?_
    refine then_ret ?_
    refine sj_ret ?_
    refine end_none S rfl ?_
    exact ⟨rfl, _, es, hearP_yes (k := k) hph (by omega) (by simp only [asksM]; simp_all), W3.less (.cons _ (List.Sublist.refl _))⟩
  clear S a M; intro a wc
  clear hD hM hK0 hEn
  rintro ⟨k, q, q2, S, hq, hqn, W2, hc⟩
  have hlen : (ds.set k (q2, q.2)).length = ds.length := List.length_set
  have hkl2 := (List.getElem?_eq_some_iff.1 hq).1
  have hq2 : (ds.set k (q2, q.2))[k]? = some (q2, q.2) := List.getElem?_set_self hkl2
  have W3 := W2
  obtain ⟨la, ln, lc, llo, lhi, lcs, ma, mc, mlo, mhi, mcs, ka, kc, klo, khi, kcs, ea, ec, elo, ehi, ecs, hln, M, hD, hM, hK0, hEn⟩ := W2
  subst hln
  obtain ⟨dl, hrow0, hdw⟩ := hD.at hq2
  obtain ⟨da, dc, rfl, -⟩ := hdw.form
  have hrow : (lcs.drop (k * 10)).take 10 = (q2.cells (.slice da q.2.length dc)).toList := hrow0
  have hcl : lcs.length = ds.length * 10 := by have : lcs.length = (ds.set k (q2, q.2)).length * 10 := hD.1; omega
  refine wp_seq ?_
  refine wp_skip ?_
  refine nxE ?_
  refine st_run [1, 1, 1, 1, 1, 1] S M rfl (by kernel_rfl) ?_; clear S a; intro a S
  refine st_y S rfl rfl rfl (y_indexR (e := 59) (sz := 10) S (by kernel_rfl) rfl (M.readRow 1 rfl (by unfold maxLen; omega)) rfl (by first | omega | (simp; done) | (simp; omega))) ?_; clear S a; intro a S
  try simp only [Int.toNat_natCast, Nat.mul_one, Nat.zero_add] at S
  refine st_go [1] S rfl (by kernel_rfl) ?_; clear S a; intro a S
  refine nxC ?_
  refine wp_block ?_
  refine wp_seq ?_
  refine wp_quiet M (by kernel_rfl) (by kernel_rfl) ?_
  refine qt_y S rfl rfl rfl (fun w M => y_move S rfl) ?_; clear S a; intro a S
  refine qt_y S rfl rfl rfl (fun w M => y_nilCheck S rfl) ?_; clear S a; intro a S
  refine qt_y S rfl rfl rfl (fun w M => y_fieldAddr (k := 3) S (by kernel_rfl) rfl) ?_; clear S a; intro a S
  refine qt_y S rfl rfl rfl (fun w M => y_load S (by kernel_rfl) rfl ((M.readRow 1 rfl (by unfold maxLen; omega)).at_.row (i := k) hrow rfl 3 (by show 3 < 10; omega))) ?_; clear S a; intro a S
  refine qt_y S rfl rfl rfl (fun w M => y_int S rfl rfl rfl) ?_; clear S a; intro a S
  refine qt_y S rfl rfl rfl (fun w M => y_move S rfl) ?_; clear S a; intro a S
  refine st_fi (t := 168) S rfl ?_ ?_
  · clear S; intro h168 S
    refine qt_skip 9 S rfl ?_; clear S a; intro a S
    refine qt_y S rfl rfl rfl (fun w M => y_pickF S rfl rfl) ?_; clear S a; intro a S
    refine qt_y S rfl rfl rfl (fun w M => y_assign S rfl) ?_; clear S a; intro a S
    refine wpQuiet_nil ?_; clear M; intro w18 M
    replace S := S.sub [(0, _), (4, _), (11, _), (162, _)] rfl
    refine then_normal ?_
    refine st_condF S rfl ?_
    refine wp_seq ?_
    refine wp_quiet M (by kernel_rfl) (by kernel_rfl) ?_
    refine qt_y S rfl rfl rfl (fun w M => y_move S rfl) ?_; clear S a; intro a S
    refine qt_y S rfl rfl rfl (fun w M => y_nilCheck S rfl) ?_; clear S a; intro a S
    refine qt_y S rfl rfl rfl (fun w M => y_fieldAddr (k := 3) S (by kernel_rfl) rfl) ?_; clear S a; intro a S
    refine qt_y S rfl rfl rfl (fun w M => y_load S (by kernel_rfl) rfl ((M.readRow 1 rfl (by unfold maxLen; omega)).at_.row (i := k) hrow rfl 3 (by show 3 < 10; omega))) ?_; clear S a; intro a S
    refine qt_y S rfl rfl rfl (fun w M => y_int S rfl rfl rfl) ?_; clear S a; intro a S
    refine qt_y S rfl rfl rfl (fun w M => y_move S rfl) ?_; clear S a; intro a S
    refine st_fi (t := 203) S rfl ?_ ?_
    · clear S; intro h203 S
      refine qt_skip 9 S rfl ?_; clear S a; intro a S
      refine qt_y S rfl rfl rfl (fun w M => y_pickF S rfl rfl) ?_; clear S a; intro a S
      refine qt_y S rfl rfl rfl (fun w M => y_assign S rfl) ?_; clear S a; intro a S
      refine wpQuiet_nil ?_; clear M; intro w22 M
      refine then_normal ?_
      refine st_condF S rfl ?_
      refine wp_skip ?_
      refine block_normal ?_
      refine sc_normal ?_
      refine end_noneN S rfl ?_
      exact ⟨rfl, _, es, hearP_on hq hqn hc (by omega) (by omega), ⟨la, (ds.set k (q2, q.2)).length, lc, llo, lhi, lcs, ma, mc, mlo, mhi, mcs, ka, kc, klo, khi, kcs, ea, ec, elo, ehi, ecs, rfl, M, hD, hM, hK0, hEn⟩⟩
    clear S; intro h203 S
    refine qt_y S rfl rfl rfl (fun w M => y_move S rfl) ?_; clear S a; intro a S
    refine qt_y S rfl rfl rfl (fun w M => y_nilCheck S rfl) ?_; clear S a; intro a S
    refine qt_y S rfl rfl rfl (fun w M => y_fieldAddr (k := 6) S (by kernel_rfl) rfl) ?_; clear S a; intro a S
    refine qt_y S rfl rfl rfl (fun w M => y_load S (by kernel_rfl) rfl ((M.readRow 1 rfl (by unfold maxLen; omega)).at_.row (i := k) hrow rfl 6 (by show 6 < 10; omega))) ?_; clear S a; intro a S
    refine qt_y S rfl rfl rfl (fun w M => y_move S rfl) ?_; clear S a; intro a S
    refine qt_y S rfl rfl rfl (fun w M => y_nilCheck S rfl) ?_; clear S a; intro a S
    refine qt_y S rfl rfl rfl (fun w M => y_fieldAddr (k := 4) S (by kernel_rfl) rfl) ?_; clear S a; intro a S
    refine qt_y S rfl rfl rfl (fun w M => y_load S (by kernel_rfl) rfl ((M.readRow 1 rfl (by unfold maxLen; omega)).at_.row (i := k) hrow rfl 4 (by show 4 < 10; omega))) ?_; clear S a; intro a S
    refine qt_y S rfl rfl rfl (fun w M => y_int S rfl rfl rfl) ?_; clear S a; intro a S
    refine qt_y S rfl rfl rfl (fun w M => y_pickT S rfl rfl) ?_; clear S a; intro a S
    refine qt_y S rfl rfl rfl (fun w M => y_assign S rfl) ?_; clear S a; intro a S
    refine wpQuiet_nil ?_; clear M; intro w19 M
    replace S := S.sub [(0, _), (4, _), (11, _), (162, _), (197, _)] rfl
    refine then_normal ?_
    refine st_fi (t := 197) S rfl ?_ ?_
    · clear S; intro h197 S
      refine st_condF S rfl ?_
      refine wp_skip ?_
      refine block_normal ?_
      refine sc_normal ?_
      refine end_noneN S rfl ?_
      exact ⟨rfl, _, es, hearP_on hq hqn hc (by omega) (by omega), ⟨la, (ds.set k (q2, q.2)).length, lc, llo, lhi, lcs, ma, mc, mlo, mhi, mcs, ka, kc, klo, khi, kcs, ea, ec, elo, ehi, ecs, rfl, M, hD, hM, hK0, hEn⟩⟩
    clear S; intro h197 S
    refine st_condT S rfl ?_
    refine nxD ?_
    refine st_go [1, 1, 1, 1] S rfl (by kernel_rfl) ?_; clear S a; intro a S
    refine st_y S rfl rfl rfl (y_loadAgg S (by kernel_rfl) rfl rfl (((M.readRow 1 rfl (by unfold maxLen; omega)).at_.row (i := k) hrow rfl).part 0 3)) ?_; clear S a; intro a S
    refine st_y S rfl rfl rfl (y_build (ps := [(0, (Operand.const (Value.int IntKind.i8 5))), (1, (Operand.tmp 218))]) (pl := [(0, 1), (1, 3), (4, 1), (5, 1), (6, 1), (7, 1), (8, 1), (9, 2), (11, 1)]) (z := [.int .i8 0, .int .i64 0, .int .i64 0, .int .i64 0, .bool false, .slice none 0 0, .int .i64 0, .int .i64 0, .int .i64 0, .int .i64 0, .int .i64 0, .int .i64 0]) (cs := [_, _, _, _, _, _, _, _, _, _, _, _]) S (by kernel_rfl) rfl (rfl)) ?_; clear S a; intro a S
    refine st_call (xs := [(Operand.tmp 214), (Operand.tmp 219)]) S (enters_of Try.func57 (by decide) rfl) rfl rfl rfl (keep_any (H := H) ⟨la, _, lc, llo, lhi, lcs, ma, mc, mlo, mhi, mcs, ka, kc, klo, khi, kcs, ea, ec, elo, ehi, ecs, rfl, M, hD, hM, hK0, hEn⟩ (endR q2) (by simp)) ?_
    rintro _ w20 ⟨rfl, W3⟩; refine ⟨_, rfl, ?_⟩; clear S a; intro a S
    refine nxB ?_
    refine st_go [1, 1] S rfl (by kernel_rfl) ?_; clear S a; intro a S
    refine st_call (xs := [(Operand.tmp 221), (Operand.tmp 222)]) S (enters_of Try.func58 (by decide) rfl) rfl rfl rfl (leave_any W3 k (by omega) (by omega)) ?_
    rintro _ w21 ⟨rfl, W4⟩; refine ⟨_, rfl, ?_⟩; clear S a; intro a S
    refine wpList_nil ?_
    refine block_normal ?_
    refine sc_normal ?_
    refine end_noneN S rfl ?_
    exact ⟨rfl, _, es, hearP_end hq hqn hc (by omega) (by omega), W4⟩
  clear S; intro h168 S
  refine qt_y S rfl rfl rfl (fun w M => y_move S rfl) ?_; clear S a; intro a S
  refine qt_y S rfl rfl rfl (fun w M => y_nilCheck S rfl) ?_; clear S a; intro a S
  refine qt_y S rfl rfl rfl (fun w M => y_fieldAddr (k := 5) S (by kernel_rfl) rfl) ?_; clear S a; intro a S
  refine qt_y S rfl rfl rfl (fun w M => y_load S (by kernel_rfl) rfl ((M.readRow 1 rfl (by unfold maxLen; omega)).at_.row (i := k) hrow rfl 5 (by show 5 < 10; omega))) ?_; clear S a; intro a S
  refine qt_y S rfl rfl rfl (fun w M => y_move S rfl) ?_; clear S a; intro a S
  refine qt_y S rfl rfl rfl (fun w M => y_nilCheck S rfl) ?_; clear S a; intro a S
  refine qt_y S rfl rfl rfl (fun w M => y_fieldAddr (k := 4) S (by kernel_rfl) rfl) ?_; clear S a; intro a S
  refine qt_y S rfl rfl rfl (fun w M => y_load S (by kernel_rfl) rfl ((M.readRow 1 rfl (by unfold maxLen; omega)).at_.row (i := k) hrow rfl 4 (by show 4 < 10; omega))) ?_; clear S a; intro a S
  refine qt_y S rfl rfl rfl (fun w M => y_int S rfl rfl rfl) ?_; clear S a; intro a S
  refine qt_y S rfl rfl rfl (fun w M => y_pickT S rfl rfl) ?_; clear S a; intro a S
  refine qt_y S rfl rfl rfl (fun w M => y_assign S rfl) ?_; clear S a; intro a S
  refine wpQuiet_nil ?_; clear M; intro w11 M
  replace S := S.sub [(0, _), (4, _), (11, _), (162, _)] rfl
  refine then_normal ?_
  refine st_fi (t := 162) S rfl ?_ ?_
  · clear S; intro h162 S
    refine st_condF S rfl ?_
    refine wp_seq ?_
    refine wp_quiet M (by kernel_rfl) (by kernel_rfl) ?_
    refine qt_y S rfl rfl rfl (fun w M => y_move S rfl) ?_; clear S a; intro a S
    refine qt_y S rfl rfl rfl (fun w M => y_nilCheck S rfl) ?_; clear S a; intro a S
    refine qt_y S rfl rfl rfl (fun w M => y_fieldAddr (k := 3) S (by kernel_rfl) rfl) ?_; clear S a; intro a S
    refine qt_y S rfl rfl rfl (fun w M => y_load S (by kernel_rfl) rfl ((M.readRow 1 rfl (by unfold maxLen; omega)).at_.row (i := k) hrow rfl 3 (by show 3 < 10; omega))) ?_; clear S a; intro a S
    refine qt_y S rfl rfl rfl (fun w M => y_int S rfl rfl rfl) ?_; clear S a; intro a S
    refine qt_y S rfl rfl rfl (fun w M => y_move S rfl) ?_; clear S a; intro a S
    refine st_fi (t := 203) S rfl ?_ ?_
    · clear S; intro h203 S
      refine qt_skip 9 S rfl ?_; clear S a; intro a S
      refine qt_y S rfl rfl rfl (fun w M => y_pickF S rfl rfl) ?_; clear S a; intro a S
      refine qt_y S rfl rfl rfl (fun w M => y_assign S rfl) ?_; clear S a; intro a S
      refine wpQuiet_nil ?_; clear M; intro w17 M
      refine then_normal ?_
      refine st_condF S rfl ?_
      refine wp_skip ?_
      refine block_normal ?_
      refine sc_normal ?_
      refine end_noneN S rfl ?_
      exact ⟨rfl, _, es, hearP_on hq hqn hc (by omega) (by omega), ⟨la, (ds.set k (q2, q.2)).length, lc, llo, lhi, lcs, ma, mc, mlo, mhi, mcs, ka, kc, klo, khi, kcs, ea, ec, elo, ehi, ecs, rfl, M, hD, hM, hK0, hEn⟩⟩
    clear S; intro h203 S
    refine qt_y S rfl rfl rfl (fun w M => y_move S rfl) ?_; clear S a; intro a S
    refine qt_y S rfl rfl rfl (fun w M => y_nilCheck S rfl) ?_; clear S a; intro a S
    refine qt_y S rfl rfl rfl (fun w M => y_fieldAddr (k := 6) S (by kernel_rfl) rfl) ?_; clear S a; intro a S
    refine qt_y S rfl rfl rfl (fun w M => y_load S (by kernel_rfl) rfl ((M.readRow 1 rfl (by unfold maxLen; omega)).at_.row (i := k) hrow rfl 6 (by show 6 < 10; omega))) ?_; clear S a; intro a S
    refine qt_y S rfl rfl rfl (fun w M => y_move S rfl) ?_; clear S a; intro a S
    refine qt_y S rfl rfl rfl (fun w M => y_nilCheck S rfl) ?_; clear S a; intro a S
    refine qt_y S rfl rfl rfl (fun w M => y_fieldAddr (k := 4) S (by kernel_rfl) rfl) ?_; clear S a; intro a S
    refine qt_y S rfl rfl rfl (fun w M => y_load S (by kernel_rfl) rfl ((M.readRow 1 rfl (by unfold maxLen; omega)).at_.row (i := k) hrow rfl 4 (by show 4 < 10; omega))) ?_; clear S a; intro a S
    refine qt_y S rfl rfl rfl (fun w M => y_int S rfl rfl rfl) ?_; clear S a; intro a S
    refine qt_y S rfl rfl rfl (fun w M => y_pickT S rfl rfl) ?_; clear S a; intro a S
    refine qt_y S rfl rfl rfl (fun w M => y_assign S rfl) ?_; clear S a; intro a S
    refine wpQuiet_nil ?_; clear M; intro w14 M
    replace S := S.sub [(0, _), (4, _), (11, _), (162, _), (197, _)] rfl
    refine then_normal ?_
    refine st_fi (t := 197) S rfl ?_ ?_
    · clear S; intro h197 S
      refine st_condF S rfl ?_
      refine wp_skip ?_
      refine block_normal ?_
      refine sc_normal ?_
      refine end_noneN S rfl ?_
      exact ⟨rfl, _, es, hearP_on hq hqn hc (by omega) (by omega), ⟨la, (ds.set k (q2, q.2)).length, lc, llo, lhi, lcs, ma, mc, mlo, mhi, mcs, ka, kc, klo, khi, kcs, ea, ec, elo, ehi, ecs, rfl, M, hD, hM, hK0, hEn⟩⟩
    clear S; intro h197 S
    refine st_condT S rfl ?_
    refine nxD ?_
    refine st_go [1, 1, 1, 1] S rfl (by kernel_rfl) ?_; clear S a; intro a S
    refine st_y S rfl rfl rfl (y_loadAgg S (by kernel_rfl) rfl rfl (((M.readRow 1 rfl (by unfold maxLen; omega)).at_.row (i := k) hrow rfl).part 0 3)) ?_; clear S a; intro a S
    refine st_y S rfl rfl rfl (y_build (ps := [(0, (Operand.const (Value.int IntKind.i8 5))), (1, (Operand.tmp 218))]) (pl := [(0, 1), (1, 3), (4, 1), (5, 1), (6, 1), (7, 1), (8, 1), (9, 2), (11, 1)]) (z := [.int .i8 0, .int .i64 0, .int .i64 0, .int .i64 0, .bool false, .slice none 0 0, .int .i64 0, .int .i64 0, .int .i64 0, .int .i64 0, .int .i64 0, .int .i64 0]) (cs := [_, _, _, _, _, _, _, _, _, _, _, _]) S (by kernel_rfl) rfl (rfl)) ?_; clear S a; intro a S
    refine st_call (xs := [(Operand.tmp 214), (Operand.tmp 219)]) S (enters_of Try.func57 (by decide) rfl) rfl rfl rfl (keep_any (H := H) ⟨la, _, lc, llo, lhi, lcs, ma, mc, mlo, mhi, mcs, ka, kc, klo, khi, kcs, ea, ec, elo, ehi, ecs, rfl, M, hD, hM, hK0, hEn⟩ (endR q2) (by simp)) ?_
    rintro _ w15 ⟨rfl, W3⟩; refine ⟨_, rfl, ?_⟩; clear S a; intro a S
    refine nxB ?_
    refine st_go [1, 1] S rfl (by kernel_rfl) ?_; clear S a; intro a S
    refine st_call (xs := [(Operand.tmp 221), (Operand.tmp 222)]) S (enters_of Try.func58 (by decide) rfl) rfl rfl rfl (leave_any W3 k (by omega) (by omega)) ?_
    rintro _ w16 ⟨rfl, W4⟩; refine ⟨_, rfl, ?_⟩; clear S a; intro a S
    refine wpList_nil ?_
    refine block_normal ?_
    refine sc_normal ?_
    refine end_noneN S rfl ?_
    exact ⟨rfl, _, es, hearP_end hq hqn hc (by omega) (by omega), W4⟩
  clear S; intro h162 S
  refine st_condT S rfl ?_
  refine nxD ?_
  refine st_go [1, 1, 4] S rfl (by kernel_rfl) ?_; clear S a; intro a S
  refine st_storeRow (v := .slice la (ds.set k (q2, q.2)).length lc) (sz := 10) (m := (ds.set k (q2, q.2)).length) (j := k * 10 + 3) (us := [.int .i8 2]) S M 1 rfl (by kernel_rfl) rfl rfl (by first | rfl | (simp only [Int.toNat_natCast]; omega)) rfl rfl rfl rfl rfl (by omega) (by rw [hlen]; exact hcl) (by show k * 10 + 3 + 1 ≤ _; omega) ?_; clear M; intro wz lo9 hi9 M
  simp only [List.eraseIdx_cons_succ, List.eraseIdx_cons_zero] at M
  replace M := M.front 1 rfl
  simp only [List.eraseIdx_cons_succ, List.eraseIdx_cons_zero] at M
  refine nxC ?_
  have hD2 : BkG drS (putL lcs (k * 10 + 3) [.int .i8 2]) (ds.set k ({ q2 with phase := 2 }, q.2)) es := by
    have := hD.set (q := (({ q2 with phase := 2 } : Dr), q.2)) (k := k) (by rw [hlen]; exact hkl2) hdw
    rw [List.set_set] at this
    rw [put_cell (by omega) hrow (by omega)]; exact this
  obtain ⟨dl5, hrow5, hdw5⟩ := hD2.at (List.getElem?_set_self hkl2)
  have hl5 : (ds.set k (({ q2 with phase := 2 } : Dr), q.2)).length = (ds.set k (q2, q.2)).length := by simp
  refine wp_regionK [14] #[false, false, false, false, false, false, false, false, false, false, false, false, false, false, false] rfl M (by kernel_rfl) ?_; clear M; intro w12 M
  refine k_pure (listed' := #[true, false, false, false, false, false, false, false, false, false, false, false, false, false, false]) 0 S rfl rfl rfl rfl (by kernel_rfl) rfl (fun _ d _ _ _ h => by cases d <;> exact h) (fun w => y_move S rfl) ?_; clear S a; intro a S
  refine k_pure (listed' := #[true, true, false, false, false, false, false, false, false, false, false, false, false, false, false]) 1 S rfl rfl rfl rfl (by kernel_rfl) rfl (fun _ d _ _ _ h => by cases d <;> exact h) (fun w => y_move S rfl) ?_; clear S a; intro a S
  refine k_pure (listed' := #[true, true, true, false, false, false, false, false, false, false, false, false, false, false, false]) 2 S rfl rfl rfl rfl (by kernel_rfl) rfl (fun _ d _ _ _ h => by cases d <;> exact h) (fun w => y_nilCheck S rfl) ?_; clear S a; intro a S
  refine k_pure (listed' := #[true, true, true, true, false, false, false, false, false, false, false, false, false, false, false]) 3 S rfl rfl rfl rfl (by kernel_rfl) rfl (fun _ d _ _ _ h => by cases d <;> exact h) (fun w => y_fieldAddr (k := 0) S (by kernel_rfl) rfl) ?_; clear S a; intro a S
  refine k_read (listed' := #[true, true, true, true, true, false, false, false, false, false, false, false, false, false, false]) 4 S rfl rfl rfl rfl (by kernel_rfl) rfl (fun _ d _ _ _ h => by cases d <;> exact h) (fun w hW => have M := M.grow hW; y_loadAgg S (by kernel_rfl) rfl rfl (((M.readRow 1 rfl (by unfold maxLen; omega)).at_.row (i := k) hrow5 rfl).part 0 3)) ?_; clear S a; intro a S
  refine k_pure (listed' := #[true, true, true, true, true, true, false, false, false, false, false, false, false, false, false]) 5 S rfl rfl rfl rfl (by kernel_rfl) rfl (fun _ d _ _ _ h => by cases d <;> exact h) (fun w => y_move S rfl) ?_; clear S a; intro a S
  refine k_pure (listed' := #[true, true, true, true, true, true, true, false, false, false, false, false, false, false, false]) 6 S rfl rfl rfl rfl (by kernel_rfl) rfl (fun _ d _ _ _ h => by cases d <;> exact h) (fun w => y_nilCheck S rfl) ?_; clear S a; intro a S
  refine k_pure (listed' := #[true, true, true, true, true, true, true, true, false, false, false, false, false, false, false]) 7 S rfl rfl rfl rfl (by kernel_rfl) rfl (fun _ d _ _ _ h => by cases d <;> exact h) (fun w => y_fieldAddr (k := 4) S (by kernel_rfl) rfl) ?_; clear S a; intro a S
  refine k_read (listed' := #[true, true, true, true, true, true, true, true, true, false, false, false, false, false, false]) 8 S rfl rfl rfl rfl (by kernel_rfl) rfl (fun _ d _ _ _ h => by cases d <;> exact h) (fun w hW => have M := M.grow hW; y_load S (by kernel_rfl) rfl ((M.readRow 1 rfl (by unfold maxLen; omega)).at_.row (i := k) hrow5 rfl 4 (by show 4 < 10; omega))) ?_; clear S a; intro a S
  refine k_pure (listed' := #[true, true, true, true, true, true, true, true, true, true, false, false, false, false, false]) 9 S rfl rfl rfl rfl (by kernel_rfl) rfl (fun _ d _ _ _ h => by cases d <;> exact h) (fun w => y_move S rfl) ?_; clear S a; intro a S
  refine k_pure (listed' := #[true, true, true, true, true, true, true, true, true, true, true, false, false, false, false]) 10 S rfl rfl rfl rfl (by kernel_rfl) rfl (fun _ d _ _ _ h => by cases d <;> exact h) (fun w => y_nilCheck S rfl) ?_; clear S a; intro a S
  refine k_pure (listed' := #[true, true, true, true, true, true, true, true, true, true, true, true, false, false, false]) 11 S rfl rfl rfl rfl (by kernel_rfl) rfl (fun _ d _ _ _ h => by cases d <;> exact h) (fun w => y_fieldAddr (k := 7) S (by kernel_rfl) rfl) ?_; clear S a; intro a S
  refine k_read (listed' := #[true, true, true, true, true, true, true, true, true, true, true, true, true, false, false]) 12 S rfl rfl rfl rfl (by kernel_rfl) rfl (fun _ d _ _ _ h => by cases d <;> exact h) (fun w hW => have M := M.grow hW; y_loadAgg S (by kernel_rfl) rfl rfl (((M.readRow 1 rfl (by unfold maxLen; omega)).at_.row (i := k) hrow5 rfl).part 7 2)) ?_; clear S a; intro a S
  refine k_pure (listed' := #[true, true, true, true, true, true, true, true, true, true, true, true, true, true, false]) 13 S rfl rfl rfl rfl (by kernel_rfl) rfl (fun _ d _ _ _ h => by cases d <;> exact h) (fun w => y_build (ps := [(0, (Operand.const (Value.int IntKind.i8 4))), (1, (Operand.tmp 186)), (6, (Operand.tmp 190)), (7, (Operand.tmp 194))]) (pl := [(0, 1), (1, 3), (4, 1), (5, 1), (6, 1), (7, 1), (8, 1), (9, 2), (11, 1)]) (z := [.int .i8 0, .int .i64 0, .int .i64 0, .int .i64 0, .bool false, .slice none 0 0, .int .i64 0, .int .i64 0, .int .i64 0, .int .i64 0, .int .i64 0, .int .i64 0]) (cs := [_, _, _, _, _, _, _, _, _, _, _, _]) S (by kernel_rfl) rfl (rfl)) ?_; clear S a; intro a S
  refine k_one (listed' := #[true, true, true, true, true, true, true, true, true, true, true, true, true, true, true]) 14 rfl (by kernel_rfl) rfl ?_
  refine st_call (xs := [(Operand.tmp 182), (Operand.tmp 195)]) S (enters_of Try.func57 (by decide) rfl) rfl rfl rfl (keep_any (ds := ds.set k ({ q2 with phase := 2 }, q.2)) (ml := []) (kl := []) (el := []) (H := H) (es := es) ⟨la, _, lc, lo9, hi9, _, ma, mc, mlo, mhi, mcs, ka, kc, klo, khi, kcs, ea, ec, elo, ehi, ecs, hl5.symm, by rw [hl5]; exact M, hD2, hM, hK0, hEn⟩ (commitR q2) (by simp)) ?_
  rintro _ w13 ⟨rfl, W3⟩; refine ⟨_, rfl, ?_⟩; clear S a; intro a S
  refine wpList_nil ?_; refine then_normal ?_; refine ⟨fun h => absurd h (by decide), ?_⟩
  refine k_end (by kernel_rfl) ?_
  replace S := S.sub [(0, _), (4, _), (11, _), (162, _)] rfl
  refine block_normal ?_
  refine sc_normal ?_
  refine end_noneN S rfl ?_
  exact ⟨rfl, _, es, hearP_keep hq hqn hc h168 h162, W3⟩
end

end Go.Proofs.Ytidpeojkkfmgeaa
