/-
  law13: LockWaits, walked.
-/
import Derived.Test.YtcbofgcmfkcglaaLs
import Derived.Test.YtcbofgcmfkcglaaLl
namespace Go.Proofs.Ytcbofgcmfkcglaa
open Go.RowKit Go.Sort

structure Ac where
  does : Int
  l : Lk
abbrev Ac.cellsL (x : Ac) : List Value := [.int .i64 x.does, .int .i64 x.l.name.stamp, .int .i64 x.l.name.inc, .int .i64 x.l.name.try_, .int .i64 x.l.block, .bool x.l.excl]
abbrev acells (l : List Ac) : List Value := l.flatMap Ac.cellsL
theorem acells_length : ∀ l, (acells l).length = l.length * 6
  | [] => rfl
  | x :: l => by
    show (x.cellsL ++ acells l).length = _
    rw [List.length_append, acells_length l]; simp; omega
theorem acells_get {l : List Ac} {i : Nat} {x : Ac} (hx : l[i]? = some x) : ((acells l).drop (i * 6)).take 6 = x.cellsL := by
  have hlt := (List.getElem?_eq_some_iff.1 hx).1
  obtain ⟨_, he⟩ := List.getElem?_eq_some_iff.1 hx
  have e : acells l = acells (l.take i) ++ (x.cellsL ++ acells (l.drop (i + 1))) := by
    conv => lhs; rw [← List.take_append_drop i l, List.drop_eq_getElem_cons hlt, he]
    simp [acells]
  rw [e, show i * 6 = (acells (l.take i)).length by rw [acells_length, List.length_take]; omega, List.drop_left]
  rfl
abbrev encNm (n : Nm) : Value := .agg n.cells
theorem zero_nm (w : World) : (zeroValue 23).run Try.prog w = .ok (encNm ⟨0, 0, 0⟩) w := by
  obtain ⟨i, hi, hz⟩ : ∃ i, Try.prog.info? 23 = some i ∧ i.zero = some (encNm ⟨0, 0, 0⟩) := by
    refine ⟨_, rfl, ?_⟩
    kernel_rfl
  simp [zeroValue, typeInfo, hi, hz, go_sem]
/-- the map tells the names by their stamps -/
def StI (ml : Mes Int) (l : List Ac) : Prop := (∀ s v, getM ml s = some v → ∃ a ∈ l, a.l.name.stamp = s ∧ v = encNm a.l.name) ∧ ∀ a ∈ l, ∃ b ∈ l, b.l.name.stamp = a.l.name.stamp ∧ getM ml a.l.name.stamp = some (encNm b.l.name)
theorem getM_key {κ : Type} [DecidableEq κ] {l : Mes κ} {k : κ} : k ∈ l.map (·.1) ↔ ∃ v, getM l k = some v := by
  unfold getM
  cases hf : l.find? (fun p => decide (p.1 = k)) with
  | none =>
    rw [List.find?_eq_none] at hf
    refine ⟨fun h => ?_, fun ⟨v, h⟩ => by simp at h⟩
    obtain ⟨p, hp, e⟩ := List.mem_map.1 h
    exact absurd (by simpa using e) (hf p hp)
  | some p =>
    have h1 := List.find?_some hf
    have h2 := List.mem_of_find?_eq_some hf
    exact ⟨fun _ => ⟨_, rfl⟩, fun _ => List.mem_map.2 ⟨p, h2, by simpa using h1⟩⟩
theorem StI.look {ml : Mes Int} {l : List Ac} (h : StI ml l) (s : Int) : ∃ (nv : Nm) (th : Bool), (getM ml s).getD (encNm ⟨0, 0, 0⟩) = encNm nv ∧ decide (s ∈ ml.map (·.1)) = th ∧ (th = true → ∃ a ∈ l, a.l.name.stamp = s ∧ a.l.name = nv) ∧ (th = false → ∀ a ∈ l, a.l.name.stamp ≠ s) := by
  cases hg : getM ml s with
  | none =>
    refine ⟨⟨0, 0, 0⟩, false, rfl, decide_eq_false fun h' => ?_, fun h => (by cases h), fun _ a ha e => ?_⟩
    · obtain ⟨v, hv⟩ := getM_key.1 h'
      rw [hg] at hv; cases hv
    · obtain ⟨b, -, -, hb⟩ := h.2 a ha
      rw [e, hg] at hb; cases hb
  | some v =>
    obtain ⟨a, ha, e1, rfl⟩ := h.1 s v hg
    exact ⟨a.l.name, true, rfl, decide_eq_true (getM_key.2 ⟨_, hg⟩), fun _ => ⟨a, ha, e1, rfl⟩, fun h => (by cases h)⟩
theorem StI.put {ml : Mes Int} {l : List Ac} {x : Ac} {c : Nat} (h : StI ml l) : StI (putM eI ml c x.l.name.stamp (encNm x.l.name)).1 (l ++ [x]) := by
  refine ⟨fun s v hv => ?_, fun a ha => ?_⟩
  · rw [get_put] at hv
    split at hv
    · rename_i e; exact ⟨x, by simp, e.symm, (Option.some.inj hv).symm⟩
    · obtain ⟨a, ha, e1, e2⟩ := h.1 s v hv
      exact ⟨a, List.mem_append_left _ ha, e1, e2⟩
  · rw [get_put]
    split
    · rename_i e; exact ⟨x, by simp, e.symm, rfl⟩
    · rename_i e
      rcases List.mem_append.1 ha with ha | ha
      · obtain ⟨b, hb, e1, e2⟩ := h.2 a ha
        exact ⟨b, List.mem_append_left _ hb, e1, e2⟩
      · exact absurd (by rw [List.mem_singleton.1 ha]) e
/-- the names: named, one a stamp -/
def NmOk (l : List Ac) : Prop := (∀ a ∈ l, a.l.name.named = true) ∧ ∀ a ∈ l, ∀ b ∈ l, a.l.name.stamp = b.l.name.stamp → a.l.name = b.l.name
def OldP (l : List Ac) (n : Nm) : Prop := (l ≠ [] → ∃ a ∈ l, a.l.name = n) ∧ ∀ a ∈ l, n.stamp ≤ a.l.name.stamp
theorem NmOk.snoc {l : List Ac} {x : Ac} (h : NmOk l) (hn : x.l.name.named = true) (hx : ∀ a ∈ l, a.l.name.stamp = x.l.name.stamp → a.l.name = x.l.name) : NmOk (l ++ [x]) := by
  refine ⟨fun a ha => ?_, fun a ha b hb e => ?_⟩
  · rcases List.mem_append.1 ha with ha | ha
    · exact h.1 a ha
    · rw [List.mem_singleton.1 ha]; exact hn
  · rcases List.mem_append.1 ha with ga | ga <;> rcases List.mem_append.1 hb with gb | gb
    · exact h.2 a ga b gb e
    · have e2 := List.mem_singleton.1 gb
      rw [e2] at e ⊢; exact hx a ga e
    · have e2 := List.mem_singleton.1 ga
      rw [e2] at e ⊢; exact (hx b gb e.symm).symm
    · rw [List.mem_singleton.1 ga, List.mem_singleton.1 gb]
theorem OldP.keep {l : List Ac} {x : Ac} {n : Nm} (h : OldP l n) (hne : l ≠ []) (hx : n.stamp ≤ x.l.name.stamp) : OldP (l ++ [x]) n := by
  refine ⟨fun _ => ?_, fun a ha => ?_⟩
  · obtain ⟨a, ha, e⟩ := h.1 hne
    exact ⟨a, List.mem_append_left _ ha, e⟩
  · rcases List.mem_append.1 ha with ha | ha
    · exact h.2 a ha
    · rw [List.mem_singleton.1 ha]; exact hx
theorem OldP.new {l : List Ac} {x : Ac} {n : Nm} (h : OldP l n) (hx : l = [] ∨ x.l.name.stamp < n.stamp) : OldP (l ++ [x]) x.l.name := by
  refine ⟨fun _ => ⟨x, by simp, rfl⟩, fun a ha => ?_⟩
  rcases List.mem_append.1 ha with ha | ha
  · rcases hx with rfl | hx
    · cases ha
    · have := h.2 a ha; omega
  · rw [List.mem_singleton.1 ha]; exact Int.le_refl _
theorem tab_nil (NP : Nm → Prop) : TabM NP [] [] :=
  ⟨⟨fun _ h => (by cases h), .nil, fun _ h => (by cases h), fun _ h => (by cases h), .nil, fun _ h => (by cases h)⟩, ⟨fun _ h => (by cases h), .nil⟩, fun k f h => (by cases h), fun _ h => (by cases h), fun _ h => (by cases h)⟩
set_option maxHeartbeats 8000000 in
theorem waits13_any (va : Option Addr) (vc : Nat) (l : List Ac) (w : World) (hv : Rd 0 w.heap.size w 6 (.slice va l.length vc) l.length (acells l)) :
    Calls Try.prog 4 #[.slice va l.length vc] w fun e w' => e = .returned (.bool true) ∧ Below w.heap.size w w' := by
  have M := Mem.start w
  refine calls_enter Try.func4 rfl 145 rfl rfl ?_; intro a S
  refine nxD ?_
  refine st_go [1] S rfl (by kernel_rfl) ?_; clear S a; intro a S
  refine nxC ?_
  refine wp_seq ?_
  refine nxD ?_
  refine st_go [1] S rfl (by kernel_rfl) ?_; clear S a; intro a S
  refine st_y S rfl rfl rfl (y_lenS (E := 45) S rfl (by kernel_rfl)) ?_; clear S a; intro a S
  refine st_go [1] S rfl (by kernel_rfl) ?_; clear S a; intro a S
  refine nxC ?_
  refine st_if (t := 20) S rfl ?_ ?_
  · clear S; intro h20 S
    refine st_condT S rfl ?_
    refine nxD ?_
    refine st_call (xs := []) S (enters_of Try.func6 (by decide) rfl) rfl rfl rfl (wakes13_any _) ?_
    rintro _ w1 ⟨rfl, hK⟩; refine ⟨_, rfl, ?_⟩; clear S a; intro a S; replace M := M.grow hK
    refine st_go [1] S rfl (by kernel_rfl) ?_; clear S a; intro a S
    refine nxC ?_
    refine wp_ret ?_
    refine then_ret ?_
    refine end_one S rfl (res_tmp rfl) ?_
    exact ⟨rfl, M.below⟩
  clear S; intro h20 S
  refine st_condF S rfl ?_
  refine wp_skip ?_
  refine nxE ?_
  refine st_makeMap (κ := Int) S M rfl rfl ?_; clear S M a; intro a w2 bST S M hB
  refine st_go [1] S rfl (by kernel_rfl) ?_; clear S a; intro a S
  refine nxA ?_
  refine st_alloc S M rfl rfl #[.int .i64 0, .int .i64 0, .int .i64 0] (by kernel_rfl) ?_; clear S M a; intro a w3 bOL S M hB
  refine nxC ?_
  refine wp_seq ?_
  refine nxD ?_
  refine st_go [1] S rfl (by kernel_rfl) ?_; clear S a; intro a S
  refine st_y S rfl rfl rfl (y_lenS (E := 45) S rfl (by kernel_rfl)) ?_; clear S a; intro a S
  refine st_go [1] S rfl (by kernel_rfl) ?_; clear S a; intro a S
  refine nxC ?_
  refine wp_block ?_
  refine wp_loop_g (fun m a w' => ∃ (k : Nat) (ml : Mes Int) (c : Nat) (on : Nm), k ≤ l.length ∧ m = l.length - k ∧ Good eI ml c ∧ StI ml (l.take k) ∧ NmOk (l.take k) ∧ OldP (l.take k) on ∧ Sees 145 a [(0, .slice va l.length vc), (3, .map (some bST)), (4, .pointer (some ⟨bOL, 0, none⟩)), (23, .slice va l.length vc), (24, .int .i64 (l.length : Int)), (25, .int .i64 (k : Int))] ∧ Mem w w' [.blk bOL on.cells 23, mapX bST ml c]) (l.length) ?_ ?_
  · skip
    exact ⟨0, [], 0, ⟨0, 0, 0⟩, Nat.zero_le _, rfl, good_nil 0, ⟨fun s v h => (by cases h), fun a h => (by simp at h)⟩, ⟨fun a h => (by simp at h), fun a h => (by simp at h)⟩, ⟨fun h => absurd (by simp) h, fun a h => (by simp at h)⟩, S.sub _ rfl, M⟩
  clear S M a; intro m a wl
  rintro ⟨k, ml, c, on, hk, rfl, hG, hSt, hNm, hOld, S, M⟩
  refine nxD ?_
  refine st_go [1] S rfl (by kernel_rfl) ?_; clear S a; intro a S
  refine nxC ?_
  refine wp_seq ?_
  refine st_if (t := 26) S rfl ?_ ?_
  · clear S; intro h26 S
    refine st_condT S rfl ?_
    refine wp_skip ?_
    refine then_normal ?_
    refine wp_seq ?_
    refine wp_block ?_
    refine wp_seq ?_
    obtain ⟨x, hx⟩ : ∃ x, l[k]? = some x := ⟨_, List.getElem?_eq_getElem (by omega)⟩
    have htk : l.take (k + 1) = l.take k ++ [x] := by rw [List.take_add_one, hx]; rfl
    obtain ⟨nv, th, hnv, hth, hth1, hth2⟩ := hSt.look x.l.name.stamp
    refine wp_region_lit ?_
    refine st_go [1] S rfl (by kernel_rfl) ?_; clear S a; intro a S
    refine st_y S rfl rfl rfl (y_indexR (e := 45) (sz := 6) S (by kernel_rfl) rfl ((M.arg hv)) rfl (by first | omega | (simp; done) | (simp; omega))) ?_; clear S a; intro a S
    try simp only [Int.toNat_natCast, Nat.mul_one, Nat.zero_add] at S
    refine st_y S rfl rfl rfl (y_loadAgg S (by kernel_rfl) rfl rfl ((M.arg hv).at_.row (i := k) (acells_get hx) rfl)) ?_; clear S a; intro a S
    refine st_alloc S M rfl rfl #[.int .i64 0, .int .i64 0, .int .i64 0, .int .i64 0, .int .i64 0, .bool false] (by kernel_rfl) ?_; clear S M a; intro a w4 bX S M hB
    refine st_go [1] S rfl (by kernel_rfl) ?_; clear S a; intro a S
    refine st_store (sz := 6) (us := [_, _, _, _, _, _]) S M 0 rfl (by kernel_rfl) rfl rfl rfl rfl rfl rfl (by first | decide | (simp; done) | (simp; omega)) ?_; clear M; intro w5 M
    simp only [putL, List.set_cons_zero, List.set_cons_succ, Nat.reduceAdd] at M
    refine nxA ?_
    refine st_run [1, 2, 1, 1, 1] S M rfl (by kernel_rfl) ?_; clear S a; intro a S
    refine st_y S rfl rfl rfl (y_lookupM (pos := 2) S M (keyI) (hG) Try.underlying43 (zero_nm) rfl rfl rfl) ?_; clear S a; intro a S
    simp only [if_true] at S
    rw [hnv, hth] at S
    refine st_y S rfl rfl rfl (y_move S rfl) ?_; clear S a; intro a S
    refine st_go [1, 1] S rfl (by kernel_rfl) ?_; clear S a; intro a S
    refine st_alloc S M rfl rfl #[.int .i64 0, .int .i64 0, .int .i64 0] (by kernel_rfl) ?_; clear S M a; intro a w6 bNV S M hB
    refine st_store (sz := 3) (us := [_, _, _]) S M 0 rfl (by kernel_rfl) rfl rfl rfl rfl rfl rfl (by first | decide | (simp; done) | (simp; omega)) ?_; clear M; intro w7 M
    simp only [putL, List.set_cons_zero, List.set_cons_succ, Nat.reduceAdd] at M
    refine st_go [1] S rfl (by kernel_rfl) ?_; clear S a; intro a S
    refine nxC ?_
    refine wp_cut (fun a w' => x.l.name.named = true ∧ (∀ a ∈ l.take k, a.l.name.stamp = x.l.name.stamp → a.l.name = x.l.name) ∧ Sees 145 a [(0, .slice va l.length vc), (3, .map (some bST)), (4, .pointer (some ⟨bOL, 0, none⟩)), (5, .int .i64 (k : Int)), (6, .pointer (some ⟨bX, 0, none⟩)), (23, .slice va l.length vc), (24, .int .i64 (l.length : Int)), (25, .int .i64 (k : Int))] ∧ Mem w w' [.blk bX x.cellsL.toArray 45, .blk bOL on.cells 23, mapX bST ml c]) ?_ ?_
    · skip
      refine nxD ?_
      refine st_go [1, 1] S rfl (by kernel_rfl) ?_; clear S a; intro a S
      refine st_tils (t := 40) S rfl ?_ ?_
      · clear S; intro h40 S
        refine st_go [0, 0, 0, 0, 0, 1, 1, 2, 1] S rfl (by kernel_rfl) ?_; clear S a; intro a S
        refine st_y S rfl rfl rfl (y_loadAgg (cs := [_, _, _]) S (by kernel_rfl) rfl rfl (M.cellsAt (k := 3) 1 rfl rfl)) ?_; clear S a; intro a S
        refine st_call (xs := [(Operand.tmp 50)]) S (enters_of Try.func5 (by decide) rfl) rfl rfl rfl (rNamed_any x.l.name _) ?_
        rintro _ w11 ⟨rfl, hK⟩; refine ⟨_, rfl, ?_⟩; clear S a; intro a S; replace M := M.grow hK
        refine st_go [1, 1] S rfl (by kernel_rfl) ?_; clear S a; intro a S
        replace S := S.sub [(0, _), (3, _), (4, _), (23, _), (24, _), (25, _), (26, _), (6, _), (5, _), (7, _), (8, _), (53, _)] rfl
        refine nxC ?_
        refine st_tils (t := 53) S rfl ?_ ?_
        · clear S; intro h53 S
          refine st_condF S rfl ?_
          refine wp_skip ?_
          refine then_normal ?_
          skip
          replace M := M.drop 0
          simp only [List.eraseIdx_cons_succ, List.eraseIdx_cons_zero] at M
          refine ⟨by simpa using h53, fun a ha e => ?_, S.sub _ rfl, M⟩
          first
            | (obtain ⟨b, hb, e1, rfl⟩ := hth1 h40
               have e2 := hNm.2 a ha b hb (by rw [e, e1])
               have e3 : b.l.name.eqb x.l.name = true := by simpa using h47
               rw [e2]; exact Nm.eqb_iff.1 e3)
            | exact absurd e (hth2 h40 a ha)
        clear S; intro h53 S
        refine st_condT S rfl ?_
        refine nxD ?_
        refine st_call (xs := []) S (enters_of Try.func6 (by decide) rfl) rfl rfl rfl (wakes13_any _) ?_
        rintro _ w12 ⟨rfl, hK⟩; refine ⟨_, rfl, ?_⟩; clear S a; intro a S; replace M := M.grow hK
        refine st_go [1] S rfl (by kernel_rfl) ?_; clear S a; intro a S
        refine nxC ?_
        refine wp_ret ?_
        refine then_ret ?_
        refine block_ret ?_
        refine then_ret ?_
        refine then_ret ?_
        refine block_ret ?_
        refine then_ret ?_
        refine end_one S rfl (res_tmp rfl) ?_
        exact ⟨rfl, M.below⟩
      clear S; intro h40 S
      refine st_y S rfl rfl rfl (y_loadAgg (cs := [_, _, _]) S (by kernel_rfl) rfl rfl (M.cellsAt (k := 3) 0 rfl rfl)) ?_; clear S a; intro a S
      refine st_go [2, 1] S rfl (by kernel_rfl) ?_; clear S a; intro a S
      refine st_y S rfl rfl rfl (y_loadAgg (cs := [_, _, _]) S (by kernel_rfl) rfl rfl (M.cellsAt (k := 3) 1 rfl rfl)) ?_; clear S a; intro a S
      refine st_y S rfl rfl rfl (y_neqG (by kernel_rfl) S rfl rfl (fun w => equalNm 9998 nv x.l.name w)) ?_; clear S a; intro a S
      refine st_go [1, 1] S rfl (by kernel_rfl) ?_; clear S a; intro a S
      refine st_split (t := 47) S rfl ?_ ?_
      · clear S; intro h47 S
        refine st_go [0, 0, 0, 0, 0, 1] S rfl (by kernel_rfl) ?_; clear S a; intro a S
        replace S := S.sub [(0, _), (3, _), (4, _), (23, _), (24, _), (25, _), (26, _), (6, _), (5, _), (7, _), (8, _), (53, _)] rfl
        refine nxC ?_
        refine st_condT S rfl ?_
        refine nxD ?_
        refine st_call (xs := []) S (enters_of Try.func6 (by decide) rfl) rfl rfl rfl (wakes13_any _) ?_
        rintro _ w8 ⟨rfl, hK⟩; refine ⟨_, rfl, ?_⟩; clear S a; intro a S; replace M := M.grow hK
        refine st_go [1] S rfl (by kernel_rfl) ?_; clear S a; intro a S
        refine nxC ?_
        refine wp_ret ?_
        refine then_ret ?_
        refine block_ret ?_
        refine then_ret ?_
        refine then_ret ?_
        refine block_ret ?_
        refine then_ret ?_
        refine end_one S rfl (res_tmp rfl) ?_
        exact ⟨rfl, M.below⟩
      clear S; intro h47 S
      refine st_go [2, 1] S rfl (by kernel_rfl) ?_; clear S a; intro a S
      refine st_y S rfl rfl rfl (y_loadAgg (cs := [_, _, _]) S (by kernel_rfl) rfl rfl (M.cellsAt (k := 3) 1 rfl rfl)) ?_; clear S a; intro a S
      refine st_call (xs := [(Operand.tmp 50)]) S (enters_of Try.func5 (by decide) rfl) rfl rfl rfl (rNamed_any x.l.name _) ?_
      rintro _ w9 ⟨rfl, hK⟩; refine ⟨_, rfl, ?_⟩; clear S a; intro a S; replace M := M.grow hK
      refine st_go [1, 1] S rfl (by kernel_rfl) ?_; clear S a; intro a S
      replace S := S.sub [(0, _), (3, _), (4, _), (23, _), (24, _), (25, _), (26, _), (6, _), (5, _), (7, _), (8, _), (53, _)] rfl
      refine nxC ?_
      refine st_tils (t := 53) S rfl ?_ ?_
      · clear S; intro h53 S
        refine st_condF S rfl ?_
        refine wp_skip ?_
        refine then_normal ?_
        skip
        replace M := M.drop 0
        simp only [List.eraseIdx_cons_succ, List.eraseIdx_cons_zero] at M
        refine ⟨by simpa using h53, fun a ha e => ?_, S.sub _ rfl, M⟩
        first
          | (obtain ⟨b, hb, e1, rfl⟩ := hth1 h40
             have e2 := hNm.2 a ha b hb (by rw [e, e1])
             have e3 : b.l.name.eqb x.l.name = true := by simpa using h47
             rw [e2]; exact Nm.eqb_iff.1 e3)
          | exact absurd e (hth2 h40 a ha)
      clear S; intro h53 S
      refine st_condT S rfl ?_
      refine nxD ?_
      refine st_call (xs := []) S (enters_of Try.func6 (by decide) rfl) rfl rfl rfl (wakes13_any _) ?_
      rintro _ w10 ⟨rfl, hK⟩; refine ⟨_, rfl, ?_⟩; clear S a; intro a S; replace M := M.grow hK
      refine st_go [1] S rfl (by kernel_rfl) ?_; clear S a; intro a S
      refine nxC ?_
      refine wp_ret ?_
      refine then_ret ?_
      refine block_ret ?_
      refine then_ret ?_
      refine then_ret ?_
      refine block_ret ?_
      refine then_ret ?_
      refine end_one S rfl (res_tmp rfl) ?_
      exact ⟨rfl, M.below⟩
    clear S a M; intro a wc
    rintro ⟨hxn, hxu, S, M⟩
    refine nxD ?_
    refine st_run [1, 2, 1, 1, 1, 2, 1] S M rfl (by kernel_rfl) ?_; clear S a; intro a S
    refine st_y S rfl rfl rfl (y_loadAgg (cs := [_, _, _]) S (by kernel_rfl) rfl rfl (M.cellsAt (k := 3) 0 rfl rfl)) ?_; clear S a; intro a S
    refine st_updateM (pos := 2) S M (keyI) (hG) Try.underlying43 rfl rfl rfl rfl rfl ?_; clear M; intro w13 M
    simp only [List.set_cons_zero, List.set_cons_succ] at M
    refine nxA ?_
    refine st_go [1, 1, 1] S rfl (by kernel_rfl) ?_; clear S a; intro a S
    refine st_if (t := 65) S rfl ?_ ?_
    · clear S; intro h65 S
      refine st_go [0, 0, 0, 0, 0, 0, 0, 1] S rfl (by kernel_rfl) ?_; clear S a; intro a S
      replace S := S.sub [(0, _), (3, _), (4, _), (5, _), (6, _), (23, _), (24, _), (25, _), (73, _)] rfl
      refine nxC ?_
      refine st_condT S rfl ?_
      refine wp_region_lit ?_
      refine st_go [2, 1] S rfl (by kernel_rfl) ?_; clear S a; intro a S
      refine st_y S rfl rfl rfl (y_loadAgg (cs := [_, _, _]) S (by kernel_rfl) rfl rfl (M.cellsAt (k := 3) 0 rfl rfl)) ?_; clear S a; intro a S
      refine st_store (sz := 3) (us := [_, _, _]) S M 1 rfl (by kernel_rfl) rfl rfl rfl rfl rfl rfl (by first | decide | (simp; done) | (simp; omega)) ?_; clear M; intro w14 M
      simp only [putL, List.set_cons_zero, List.set_cons_succ, Nat.reduceAdd] at M
      refine wpList_nil ?_
      refine block_normal ?_
      refine nxF ?_
      (first | refine st_y S rfl rfl rfl (y_addN S rfl rfl (by omega)) ?_ | refine st_y S rfl rfl rfl (y_int S rfl rfl rfl) ?_); clear S a; intro a S
      refine st_go [1] S rfl (by kernel_rfl) ?_; clear S a; intro a S
      refine nxC ?_
      skip
      replace M := M.drop 0
      simp only [List.eraseIdx_cons_succ, List.eraseIdx_cons_zero] at M
      have hput : StI (putM eI ml c x.l.name.stamp (encNm x.l.name)).1 (l.take (k + 1)) := by rw [htk]; exact hSt.put
      have hnm : NmOk (l.take (k + 1)) := by rw [htk]; exact hNm.snoc hxn hxu
      have h0 : k = 0 → l.take k = [] := fun e => by rw [e]; rfl
      have h1 : k ≠ 0 → l.take k ≠ [] := fun e h => by
        have := congrArg List.length h
        rw [List.length_take, List.length_nil] at this; omega
      first
        | (suffices hn : k = 0 by exact ⟨l.length - (k + 1), by omega, k + 1, _, _, _, by omega, rfl, hG.put _ _, hput, hnm, by rw [htk]; exact hOld.new (.inl (h0 hn)), S.sub _ rfl, M⟩
           omega)
        | (suffices hn : x.l.name.stamp < on.stamp by exact ⟨l.length - (k + 1), by omega, k + 1, _, _, _, by omega, rfl, hG.put _ _, hput, hnm, by rw [htk]; exact hOld.new (.inr hn), S.sub _ rfl, M⟩
           omega)
        | (suffices hn : k ≠ 0 ∧ on.stamp ≤ x.l.name.stamp by exact ⟨l.length - (k + 1), by omega, k + 1, _, _, on, by omega, rfl, hG.put _ _, hput, hnm, by rw [htk]; exact hOld.keep (h1 hn.1) hn.2, S.sub _ rfl, M⟩
           omega)
    clear S; intro h65 S
    refine st_run [2, 1, 1, 1, 1, 2, 1, 1] S M rfl (by kernel_rfl) ?_; clear S a; intro a S
    replace S := S.sub [(0, _), (3, _), (4, _), (5, _), (6, _), (23, _), (24, _), (25, _), (73, _)] rfl
    refine nxC ?_
    refine st_fi (t := 73) S rfl ?_ ?_
    · clear S; intro h73 S
      refine st_condF S rfl ?_
      refine wp_skip ?_
      refine block_normal ?_
      refine nxF ?_
      (first | refine st_y S rfl rfl rfl (y_addN S rfl rfl (by omega)) ?_ | refine st_y S rfl rfl rfl (y_int S rfl rfl rfl) ?_); clear S a; intro a S
      refine st_go [1] S rfl (by kernel_rfl) ?_; clear S a; intro a S
      refine nxC ?_
      skip
      replace M := M.drop 0
      simp only [List.eraseIdx_cons_succ, List.eraseIdx_cons_zero] at M
      have hput : StI (putM eI ml c x.l.name.stamp (encNm x.l.name)).1 (l.take (k + 1)) := by rw [htk]; exact hSt.put
      have hnm : NmOk (l.take (k + 1)) := by rw [htk]; exact hNm.snoc hxn hxu
      have h0 : k = 0 → l.take k = [] := fun e => by rw [e]; rfl
      have h1 : k ≠ 0 → l.take k ≠ [] := fun e h => by
        have := congrArg List.length h
        rw [List.length_take, List.length_nil] at this; omega
      first
        | (suffices hn : k = 0 by exact ⟨l.length - (k + 1), by omega, k + 1, _, _, _, by omega, rfl, hG.put _ _, hput, hnm, by rw [htk]; exact hOld.new (.inl (h0 hn)), S.sub _ rfl, M⟩
           omega)
        | (suffices hn : x.l.name.stamp < on.stamp by exact ⟨l.length - (k + 1), by omega, k + 1, _, _, _, by omega, rfl, hG.put _ _, hput, hnm, by rw [htk]; exact hOld.new (.inr hn), S.sub _ rfl, M⟩
           omega)
        | (suffices hn : k ≠ 0 ∧ on.stamp ≤ x.l.name.stamp by exact ⟨l.length - (k + 1), by omega, k + 1, _, _, on, by omega, rfl, hG.put _ _, hput, hnm, by rw [htk]; exact hOld.keep (h1 hn.1) hn.2, S.sub _ rfl, M⟩
           omega)
    clear S; intro h73 S
    refine st_condT S rfl ?_
    refine wp_region_lit ?_
    refine st_go [2, 1] S rfl (by kernel_rfl) ?_; clear S a; intro a S
    refine st_y S rfl rfl rfl (y_loadAgg (cs := [_, _, _]) S (by kernel_rfl) rfl rfl (M.cellsAt (k := 3) 0 rfl rfl)) ?_; clear S a; intro a S
    refine st_store (sz := 3) (us := [_, _, _]) S M 1 rfl (by kernel_rfl) rfl rfl rfl rfl rfl rfl (by first | decide | (simp; done) | (simp; omega)) ?_; clear M; intro w15 M
    simp only [putL, List.set_cons_zero, List.set_cons_succ, Nat.reduceAdd] at M
    refine wpList_nil ?_
    refine block_normal ?_
    refine nxF ?_
    (first | refine st_y S rfl rfl rfl (y_addN S rfl rfl (by omega)) ?_ | refine st_y S rfl rfl rfl (y_int S rfl rfl rfl) ?_); clear S a; intro a S
    refine st_go [1] S rfl (by kernel_rfl) ?_; clear S a; intro a S
    refine nxC ?_
    skip
    replace M := M.drop 0
    simp only [List.eraseIdx_cons_succ, List.eraseIdx_cons_zero] at M
    have hput : StI (putM eI ml c x.l.name.stamp (encNm x.l.name)).1 (l.take (k + 1)) := by rw [htk]; exact hSt.put
    have hnm : NmOk (l.take (k + 1)) := by rw [htk]; exact hNm.snoc hxn hxu
    have h0 : k = 0 → l.take k = [] := fun e => by rw [e]; rfl
    have h1 : k ≠ 0 → l.take k ≠ [] := fun e h => by
      have := congrArg List.length h
      rw [List.length_take, List.length_nil] at this; omega
    first
      | (suffices hn : k = 0 by exact ⟨l.length - (k + 1), by omega, k + 1, _, _, _, by omega, rfl, hG.put _ _, hput, hnm, by rw [htk]; exact hOld.new (.inl (h0 hn)), S.sub _ rfl, M⟩
         omega)
      | (suffices hn : x.l.name.stamp < on.stamp by exact ⟨l.length - (k + 1), by omega, k + 1, _, _, _, by omega, rfl, hG.put _ _, hput, hnm, by rw [htk]; exact hOld.new (.inr hn), S.sub _ rfl, M⟩
         omega)
      | (suffices hn : k ≠ 0 ∧ on.stamp ≤ x.l.name.stamp by exact ⟨l.length - (k + 1), by omega, k + 1, _, _, on, by omega, rfl, hG.put _ _, hput, hnm, by rw [htk]; exact hOld.keep (h1 hn.1) hn.2, S.sub _ rfl, M⟩
         omega)
  clear S; intro h26 S
  refine st_condF S rfl ?_
  refine wp_exit ?_
  refine then_exit ?_
  refine then_exit ?_
  refine block_hit ?_
  refine then_normal ?_
  refine wp_seq ?_
  obtain rfl : k = l.length := by omega
  rw [List.take_length] at hSt hNm hOld
  refine wp_region_lit ?_
  refine st_alloc S M rfl rfl #[.slice none 0 0, .slice none 0 0] (by kernel_rfl) ?_; clear S M a; intro a w16 bT S M hB
  refine nxC ?_
  refine wp_seq ?_
  refine nxD ?_
  refine st_go [1] S rfl (by kernel_rfl) ?_; clear S a; intro a S
  refine st_y S rfl rfl rfl (y_lenS (E := 45) S rfl (by kernel_rfl)) ?_; clear S a; intro a S
  refine st_go [1] S rfl (by kernel_rfl) ?_; clear S a; intro a S
  refine nxC ?_
  refine wp_block ?_
  refine wp_loop_g (fun m a w' => ∃ (k : Nat) (h wt : List Lk) (ha wa : Option Addr) (hc wc lo1 hi1 lo2 hi2 : Nat), k ≤ l.length ∧ m = l.length - k ∧ TabM (fun n => ∃ a ∈ l, a.l.name = n) h wt ∧ h.length + wt.length ≤ k ∧ Sees 145 a [(4, .pointer (some ⟨bOL, 0, none⟩)), (9, .pointer (some ⟨bT, 0, none⟩)), (78, .slice va l.length vc), (79, .int .i64 (l.length : Int)), (80, .int .i64 (k : Int))] ∧ Mem w w' [rowE lo1 hi1 37 5 (.slice ha h.length hc) h.length (lcells h), rowE lo2 hi2 37 5 (.slice wa wt.length wc) wt.length (lcells wt), .blk bT #[.slice ha h.length hc, .slice wa wt.length wc] 30, .blk bOL on.cells 23]) (l.length) ?_ ?_
  · skip
    replace M := M.front 1 rfl
    simp only [List.eraseIdx_cons_succ, List.eraseIdx_cons_zero] at M
    replace M := M.front 1 rfl
    simp only [List.eraseIdx_cons_succ, List.eraseIdx_cons_zero] at M
    replace M := M.drop 2
    simp only [List.eraseIdx_cons_succ, List.eraseIdx_cons_zero] at M
    replace M := (M.rowNil 37 5).rowNil 37 5
    exact ⟨0, [], [], none, none, 0, 0, _, _, _, _, Nat.zero_le _, rfl, tab_nil _, Nat.le_refl _, S.sub _ rfl, M⟩
  clear S M a; intro m a wl
  rintro ⟨k2, h, wt, ha, wa, hc, wc, lo1, hi1, lo2, hi2, hk2, rfl, hT, hlen, S, M⟩
  refine nxD ?_
  refine st_go [1] S rfl (by kernel_rfl) ?_; clear S a; intro a S
  refine nxC ?_
  refine wp_seq ?_
  refine st_fi (t := 81) S rfl ?_ ?_
  · clear S; intro h81 S
    refine st_condF S rfl ?_
    refine wp_exit ?_
    refine then_exit ?_
    refine then_exit ?_
    refine block_hit ?_
    refine nxE ?_
    refine st_call (xs := []) S (enters_of Try.func6 (by decide) rfl) rfl rfl rfl (wakes13_any _) ?_
    rintro _ w31 ⟨rfl, hK⟩; refine ⟨_, rfl, ?_⟩; clear S a; intro a S; replace M := M.grow hK
    refine st_go [1] S rfl (by kernel_rfl) ?_; clear S a; intro a S
    refine nxC ?_
    refine wp_ret ?_
    refine end_one S rfl (res_tmp rfl) ?_
    exact ⟨rfl, M.below⟩
  clear S; intro h81 S
  refine st_condT S rfl ?_
  refine wp_skip ?_
  refine then_normal ?_
  refine wp_seq ?_
  refine wp_block ?_
  refine wp_seq ?_
  obtain ⟨x, hx⟩ : ∃ x, l[k2]? = some x := ⟨_, List.getElem?_eq_getElem (by omega)⟩
  have hxm := List.mem_of_getElem? hx
  refine wp_region_lit ?_
  refine st_y S rfl rfl rfl (y_indexR (e := 45) (sz := 6) S (by kernel_rfl) rfl ((M.arg hv)) rfl (by first | omega | (simp; done) | (simp; omega))) ?_; clear S a; intro a S
  try simp only [Int.toNat_natCast, Nat.mul_one, Nat.zero_add] at S
  refine st_y S rfl rfl rfl (y_loadAgg S (by kernel_rfl) rfl rfl ((M.arg hv).at_.row (i := k2) (acells_get hx) rfl)) ?_; clear S a; intro a S
  refine st_alloc S M rfl rfl #[.int .i64 0, .int .i64 0, .int .i64 0, .int .i64 0, .int .i64 0, .bool false] (by kernel_rfl) ?_; clear S M a; intro a w17 bX S M hB
  refine st_store (sz := 6) (us := [_, _, _, _, _, _]) S M 0 rfl (by kernel_rfl) rfl rfl rfl rfl rfl rfl (by first | decide | (simp; done) | (simp; omega)) ?_; clear M; intro w18 M
  simp only [putL, List.set_cons_zero, List.set_cons_succ, Nat.reduceAdd] at M
  refine nxC ?_
  refine wp_cut (fun a w' => ∃ (h wt : List Lk) (ha wa : Option Addr) (hc wc lo1 hi1 lo2 hi2 : Nat), TabM (fun n => ∃ a ∈ l, a.l.name = n) h wt ∧ h.length + wt.length ≤ k2 + 1 ∧ Sees 145 a [(4, .pointer (some ⟨bOL, 0, none⟩)), (9, .pointer (some ⟨bT, 0, none⟩)), (78, .slice va l.length vc), (79, .int .i64 (l.length : Int)), (80, .int .i64 (k2 : Int))] ∧ Mem w w' [rowE lo1 hi1 37 5 (.slice ha h.length hc) h.length (lcells h), rowE lo2 hi2 37 5 (.slice wa wt.length wc) wt.length (lcells wt), .blk bT #[.slice ha h.length hc, .slice wa wt.length wc] 30, .blk bOL on.cells 23]) ?_ ?_
  · skip
    refine nxD ?_
    refine st_run [1, 1, 1] S M rfl (by kernel_rfl) ?_; clear S a; intro a S
    refine nxC ?_
    refine st_if (t := 86) S rfl ?_ ?_
    · clear S; intro h86 S
      refine st_condT S rfl ?_
      refine nxD ?_
      refine st_y S rfl rfl rfl (y_loadAgg (cs := [_, _]) S (by kernel_rfl) rfl rfl (M.cellsAt (k := 2) 3 rfl rfl)) ?_; clear S a; intro a S
      refine st_go [2, 1] S rfl (by kernel_rfl) ?_; clear S a; intro a S
      refine st_y S rfl rfl rfl (y_loadAgg (cs := [_, _, _]) S (by kernel_rfl) rfl rfl (M.cellsAt (k := 3) 0 rfl rfl)) ?_; clear S a; intro a S
      refine st_call (xs := [(Operand.tmp 88), (Operand.tmp 91)]) S (enters_of Try.func9 (by decide) rfl) rfl rfl rfl (release_any ha wa hc wc h wt x.l.name _ (M.readAll 1 rfl (by unfold maxLen; omega)) (M.readAll 2 rfl (by unfold maxLen; omega)) (by omega) (by omega)) ?_
      rintro _ w19 ⟨er, v, oa, ol, oc, h2, wt2, rfl, ⟨ha2, wa2, hc2, wc2, lo3, hi3, lo4, hi4, rfl, M1⟩, hR⟩
      refine ⟨_, rfl, ?_⟩; clear S a; intro a S; replace M := M.join M1; clear M1
      simp only [List.cons_append, List.nil_append] at M
      have hok := okM_iff.2 hT.ok
      obtain ⟨rfl, hRl⟩ : er = 0 ∧ RelRes h wt x.l.name h2 wt2 := by
        rcases hR with ⟨h1, -, h3⟩ | ⟨-, h3⟩
        · exact ⟨h1, h3⟩
        · exact absurd hok h3
      obtain ⟨hT2, hlen2⟩ := release_step hT hRl
      refine st_go [1, 1, 1, 1] S rfl (by kernel_rfl) ?_; clear S a; intro a S
      refine st_alloc S M rfl rfl #[.slice none 0 0, .slice none 0 0] (by kernel_rfl) ?_; clear S M a; intro a w20 bO1 S M hB
      refine st_store (sz := 2) (us := [_, _]) S M 0 rfl (by kernel_rfl) rfl rfl rfl rfl rfl rfl (by first | decide | (simp; done) | (simp; omega)) ?_; clear M; intro w21 M
      simp only [putL, List.set_cons_zero, List.set_cons_succ, Nat.reduceAdd] at M
      refine st_go [1, 1] S rfl (by kernel_rfl) ?_; clear S a; intro a S
      replace S := S.sub [(4, _), (9, _), (78, _), (79, _), (80, _), (81, _), (11, _), (86, _), (12, _), (14, _)] rfl
      refine nxC ?_
      refine wp_seq ?_
      refine nxD ?_
      refine st_go [1, 1] S rfl (by kernel_rfl) ?_; clear S a; intro a S
      refine nxC ?_
      refine st_if (t := 97) S rfl ?_ ?_
      · clear S; intro h97 S
        exact absurd rfl h97
      clear S; intro h97 S
      refine st_condF S rfl ?_
      refine wp_skip ?_
      refine nxF ?_
      refine st_y S rfl rfl rfl (y_loadAgg (cs := [_, _]) S (by kernel_rfl) rfl rfl (M.cellsAt (k := 2) 0 rfl rfl)) ?_; clear S a; intro a S
      refine st_store (sz := 2) (us := [_, _]) S M 6 rfl (by kernel_rfl) rfl rfl rfl rfl rfl rfl (by first | decide | (simp; done) | (simp; omega)) ?_; clear M; intro w22 M
      simp only [putL, List.set_cons_zero, List.set_cons_succ, Nat.reduceAdd] at M
      refine nxC ?_
      skip
      replace M := M.front 7 rfl
      simp only [List.eraseIdx_cons_succ, List.eraseIdx_cons_zero] at M
      replace M := M.front 7 rfl
      simp only [List.eraseIdx_cons_succ, List.eraseIdx_cons_zero] at M
      replace M := M.front 4 rfl
      simp only [List.eraseIdx_cons_succ, List.eraseIdx_cons_zero] at M
      replace M := M.front 4 rfl
      simp only [List.eraseIdx_cons_succ, List.eraseIdx_cons_zero] at M
      have M2 := M.sub (H' := [_, _, _, _]) (.cons_cons _ (.cons_cons _ (.cons_cons _ (.cons_cons _ (List.nil_sublist _)))))
      exact ⟨h2, wt2, ha2, wa2, hc2, wc2, _, _, _, _, hT2, by omega, S.sub _ rfl, M2⟩
    clear S; intro h86 S
    refine st_condF S rfl ?_
    refine nxD ?_
    refine st_y S rfl rfl rfl (y_loadAgg (cs := [_, _]) S (by kernel_rfl) rfl rfl (M.cellsAt (k := 2) 3 rfl rfl)) ?_; clear S a; intro a S
    refine st_go [2] S rfl (by kernel_rfl) ?_; clear S a; intro a S
    refine st_y S rfl rfl rfl (y_loadAgg (cs := [_, _, _, _, _]) S (by kernel_rfl) rfl rfl (M.cellsAt (k := 5) 0 rfl rfl)) ?_; clear S a; intro a S
    refine st_call (xs := [(Operand.tmp 100), (Operand.tmp 102)]) S (enters_of Try.func7 (by decide) rfl) rfl rfl rfl (ask_any ha wa hc wc h wt x.l _ (M.readAll 1 rfl (by unfold maxLen; omega)) (M.readAll 2 rfl (by unfold maxLen; omega)) (by omega) (by omega)) ?_
    rintro _ w23 ⟨er, act, v, h2, wt2, rfl, ⟨ha2, wa2, hc2, wc2, lo3, hi3, lo4, hi4, rfl, M1⟩, hR⟩
    refine ⟨_, rfl, ?_⟩; clear S a; intro a S; replace M := M.join M1; clear M1
    simp only [List.cons_append, List.nil_append] at M
    refine st_go [1, 1, 1, 1] S rfl (by kernel_rfl) ?_; clear S a; intro a S
    refine st_alloc S M rfl rfl #[.slice none 0 0, .slice none 0 0] (by kernel_rfl) ?_; clear S M a; intro a w24 bO2 S M hB
    refine st_store (sz := 2) (us := [_, _]) S M 0 rfl (by kernel_rfl) rfl rfl rfl rfl rfl rfl (by first | decide | (simp; done) | (simp; omega)) ?_; clear M; intro w25 M
    simp only [putL, List.set_cons_zero, List.set_cons_succ, Nat.reduceAdd] at M
    refine st_go [1, 1] S rfl (by kernel_rfl) ?_; clear S a; intro a S
    refine nxC ?_
    refine wp_seq ?_
    refine nxD ?_
    refine st_go [1, 1] S rfl (by kernel_rfl) ?_; clear S a; intro a S
    refine nxC ?_
    refine st_if (t := 108) S rfl ?_ ?_
    · clear S; intro h108 S
      refine st_condT S rfl ?_
      refine wp_seq ?_
      refine nxD ?_
      refine st_run [2, 4, 4, 1, 1] S M rfl (by kernel_rfl) ?_; clear S a; intro a S
      refine st_fi (t := 113) S rfl ?_ ?_
      · clear S; intro h113 S
        refine st_go [0, 0, 0, 0, 1] S rfl (by kernel_rfl) ?_; clear S a; intro a S
        replace S := S.sub [(4, _), (9, _), (78, _), (79, _), (80, _), (81, _), (11, _), (86, _), (15, _), (16, _), (17, _), (108, _), (118, _)] rfl
        refine nxC ?_
        refine st_condF S rfl ?_
        refine wp_skip ?_
        refine then_normal ?_
        refine wp_exit ?_
        refine then_exit ?_
        refine then_exit ?_
        refine block_hit ?_
        refine nxF ?_
        (first | refine st_y S rfl rfl rfl (y_addN S rfl rfl (by omega)) ?_ | refine st_y S rfl rfl rfl (y_int S rfl rfl rfl) ?_); clear S a; intro a S
        refine st_go [1] S rfl (by kernel_rfl) ?_; clear S a; intro a S
        refine nxC ?_
        first
          | exact ⟨l.length - (k2 + 1), by omega, k2 + 1, h3, wt3, ha3, wa3, hc3, wc3, _, _, _, _, by omega, rfl, hT3, by omega, S.sub _ rfl, M⟩
          | (have M2 := (((M.drop 0).drop 0).drop 0).drop 0
             exact ⟨l.length - (k2 + 1), by omega, k2 + 1, h, wt, ha, wa, hc, wc, _, _, _, _, by omega, rfl, hT, by omega, S.sub _ rfl, M2⟩)
      clear S; intro h113 S
      refine st_run [2, 4, 4, 1, 1] S M rfl (by kernel_rfl) ?_; clear S a; intro a S
      replace S := S.sub [(4, _), (9, _), (78, _), (79, _), (80, _), (81, _), (11, _), (86, _), (15, _), (16, _), (17, _), (108, _), (118, _)] rfl
      refine nxC ?_
      refine st_if (t := 118) S rfl ?_ ?_
      · clear S; intro h118 S
        exfalso
        rcases hR with ⟨rfl, -⟩ | ⟨-, h3, -⟩
        · exact h108 rfl
        · refine h3 ⟨okM_iff.2 hT.ok, ?_⟩
          unfold Lk.may knownB
          rw [hNm.1 x hxm, Bool.true_and, decide_eq_true_eq]
          omega
      clear S; intro h118 S
      refine st_condF S rfl ?_
      refine wp_skip ?_
      refine then_normal ?_
      refine wp_exit ?_
      refine then_exit ?_
      refine then_exit ?_
      refine block_hit ?_
      refine nxF ?_
      (first | refine st_y S rfl rfl rfl (y_addN S rfl rfl (by omega)) ?_ | refine st_y S rfl rfl rfl (y_int S rfl rfl rfl) ?_); clear S a; intro a S
      refine st_go [1] S rfl (by kernel_rfl) ?_; clear S a; intro a S
      refine nxC ?_
      first
        | exact ⟨l.length - (k2 + 1), by omega, k2 + 1, h3, wt3, ha3, wa3, hc3, wc3, _, _, _, _, by omega, rfl, hT3, by omega, S.sub _ rfl, M⟩
        | (have M2 := (((M.drop 0).drop 0).drop 0).drop 0
           exact ⟨l.length - (k2 + 1), by omega, k2 + 1, h, wt, ha, wa, hc, wc, _, _, _, _, by omega, rfl, hT, by omega, S.sub _ rfl, M2⟩)
    clear S; intro h108 S
    refine st_condF S rfl ?_
    refine wp_skip ?_
    refine then_normal ?_
    refine wp_seq ?_
    refine wp_seq ?_
    obtain ⟨hmy, hRa⟩ : x.l.may = true ∧ AskRel h wt x.l h2 wt2 act := by
      rcases hR with ⟨-, h3, h4⟩ | ⟨h3, -⟩
      · exact ⟨h3.2, h4⟩
      · omega
    obtain ⟨hT2, hlen2, hdie⟩ := ask_step hT hmy ⟨x, hxm, rfl⟩ hRa
    refine wp_region_lit ?_
    refine st_go [1, 1, 1] S rfl (by kernel_rfl) ?_; clear S a; intro a S
    refine st_fi (t := 121) S rfl ?_ ?_
    · clear S; intro h121 S
      refine st_go [0, 0, 0, 0, 0, 0, 0, 0, 0, 0, 0, 1] S rfl (by kernel_rfl) ?_; clear S a; intro a S
      replace S := S.sub [(4, _), (9, _), (78, _), (79, _), (80, _), (81, _), (11, _), (86, _), (15, _), (16, _), (17, _), (108, _), (133, _)] rfl
      refine nxC ?_
      refine st_condF S rfl ?_
      refine wp_skip ?_
      refine nxF ?_
      refine st_y S rfl rfl rfl (y_loadAgg (cs := [_, _]) S (by kernel_rfl) rfl rfl (M.cellsAt (k := 2) 0 rfl rfl)) ?_; clear S a; intro a S
      refine st_store (sz := 2) (us := [_, _]) S M 6 rfl (by kernel_rfl) rfl rfl rfl rfl rfl rfl (by first | decide | (simp; done) | (simp; omega)) ?_; clear M; intro w28 M
      simp only [putL, List.set_cons_zero, List.set_cons_succ, Nat.reduceAdd] at M
      refine nxC ?_
      skip
      replace M := M.front 7 rfl
      simp only [List.eraseIdx_cons_succ, List.eraseIdx_cons_zero] at M
      replace M := M.front 7 rfl
      simp only [List.eraseIdx_cons_succ, List.eraseIdx_cons_zero] at M
      replace M := M.front 4 rfl
      simp only [List.eraseIdx_cons_succ, List.eraseIdx_cons_zero] at M
      replace M := M.front 4 rfl
      simp only [List.eraseIdx_cons_succ, List.eraseIdx_cons_zero] at M
      have M2 := M.sub (H' := [_, _, _, _]) (.cons_cons _ (.cons_cons _ (.cons_cons _ (.cons_cons _ (List.nil_sublist _)))))
      exact ⟨h2, wt2, ha2, wa2, hc2, wc2, _, _, _, _, hT2, by omega, S.sub _ rfl, M2⟩
    clear S; intro h121 S
    refine st_go [2, 1] S rfl (by kernel_rfl) ?_; clear S a; intro a S
    refine st_y S rfl rfl rfl (y_loadAgg (cs := [_, _, _]) S (by kernel_rfl) rfl rfl (M.cellsAt (k := 3) 3 rfl rfl)) ?_; clear S a; intro a S
    refine st_y S rfl rfl rfl (y_loadAgg (cs := [_, _, _]) S (by kernel_rfl) rfl rfl (M.cellsAt (k := 3) 7 rfl rfl)) ?_; clear S a; intro a S
    refine st_y S rfl rfl rfl (y_eqlG (by kernel_rfl) S rfl rfl (fun w => equalNm 9998 x.l.name on w)) ?_; clear S a; intro a S
    refine st_go [1] S rfl (by kernel_rfl) ?_; clear S a; intro a S
    refine st_split (t := 127) S rfl ?_ ?_
    · clear S; intro h127 S
      exfalso
      obtain ⟨e1, e2, q, ⟨b, hb, hbq⟩, hne, hle⟩ := hdie h121
      have e3 := Nm.eqb_iff.1 h127
      have h8 := hOld.2 b hb
      have h9 := hNm.2 b hb x hxm (by rw [hbq] at h8 ⊢; rw [e3] at hle ⊢; omega)
      exact hne (by rw [← hbq, h9])
    clear S; intro h127 S
    refine st_y S rfl rfl rfl (y_loadAgg (cs := [_, _]) S (by kernel_rfl) rfl rfl (M.cellsAt (k := 2) 0 rfl rfl)) ?_; clear S a; intro a S
    refine st_y S rfl rfl rfl (y_loadAgg (cs := [_, _]) S (by kernel_rfl) rfl rfl (M.cellsAt (k := 2) 6 rfl rfl)) ?_; clear S a; intro a S
    refine st_call (xs := [(Operand.tmp 128), (Operand.tmp 129)]) S (enters_of Try.func10 (by decide) rfl) rfl rfl rfl (sameT_any ha2 wa2 ha wa hc2 wc2 hc wc h2 wt2 h wt _ (M.readAll 1 rfl (by unfold maxLen; omega)) (M.readAll 2 rfl (by unfold maxLen; omega)) (M.readAll 4 rfl (by unfold maxLen; omega)) (M.readAll 5 rfl (by unfold maxLen; omega))) ?_
    rintro _ w26 ⟨rfl, hK⟩; refine ⟨_, rfl, ?_⟩; clear S a; intro a S; replace M := M.grow hK
    refine st_go [1, 1, 1] S rfl (by kernel_rfl) ?_; clear S a; intro a S
    replace S := S.sub [(4, _), (9, _), (78, _), (79, _), (80, _), (81, _), (11, _), (86, _), (15, _), (16, _), (17, _), (108, _), (133, _)] rfl
    refine nxC ?_
    refine st_split (t := 133) S rfl ?_ ?_
    · clear S; intro h133 S
      exfalso
      obtain ⟨e1, e2, -⟩ := hdie h121
      subst e1 e2; simp at h133
    clear S; intro h133 S
    refine st_condF S rfl ?_
    refine wp_skip ?_
    refine nxF ?_
    refine st_y S rfl rfl rfl (y_loadAgg (cs := [_, _]) S (by kernel_rfl) rfl rfl (M.cellsAt (k := 2) 0 rfl rfl)) ?_; clear S a; intro a S
    refine st_store (sz := 2) (us := [_, _]) S M 6 rfl (by kernel_rfl) rfl rfl rfl rfl rfl rfl (by first | decide | (simp; done) | (simp; omega)) ?_; clear M; intro w27 M
    simp only [putL, List.set_cons_zero, List.set_cons_succ, Nat.reduceAdd] at M
    refine nxC ?_
    skip
    replace M := M.front 7 rfl
    simp only [List.eraseIdx_cons_succ, List.eraseIdx_cons_zero] at M
    replace M := M.front 7 rfl
    simp only [List.eraseIdx_cons_succ, List.eraseIdx_cons_zero] at M
    replace M := M.front 4 rfl
    simp only [List.eraseIdx_cons_succ, List.eraseIdx_cons_zero] at M
    replace M := M.front 4 rfl
    simp only [List.eraseIdx_cons_succ, List.eraseIdx_cons_zero] at M
    have M2 := M.sub (H' := [_, _, _, _]) (.cons_cons _ (.cons_cons _ (.cons_cons _ (.cons_cons _ (List.nil_sublist _)))))
    exact ⟨h2, wt2, ha2, wa2, hc2, wc2, _, _, _, _, hT2, by omega, S.sub _ rfl, M2⟩
  clear S a M; intro a wc
  rintro ⟨h3, wt3, ha3, wa3, hc3, wc3, lo5, hi5, lo6, hi6, hT3, hlen3, S, M⟩
  refine nxD ?_
  refine st_y S rfl rfl rfl (y_loadAgg (cs := [_, _]) S (by kernel_rfl) rfl rfl (M.cellsAt (k := 2) 2 rfl rfl)) ?_; clear S a; intro a S
  refine st_call (xs := [(Operand.tmp 135)]) S (enters_of Try.func11 (by decide) rfl) rfl rfl rfl (check_any ha3 wa3 hc3 wc3 h3 wt3 _ (M.readAll 0 rfl (by unfold maxLen; omega)) (M.readAll 1 rfl (by unfold maxLen; omega))) ?_
  rintro _ w29 ⟨er, rfl, hK, her⟩; obtain rfl := her.2 (okM_iff.2 hT3.ok); refine ⟨_, rfl, ?_⟩; clear S a; intro a S; replace M := M.grow hK
  refine st_go [1, 1] S rfl (by kernel_rfl) ?_; clear S a; intro a S
  refine st_if (t := 138) S rfl ?_ ?_
  · clear S; intro h138 S
    exact absurd rfl h138
  clear S; intro h138 S
  refine st_y S rfl rfl rfl (y_loadAgg (cs := [_, _]) S (by kernel_rfl) rfl rfl (M.cellsAt (k := 2) 2 rfl rfl)) ?_; clear S a; intro a S
  refine st_call (xs := [(Operand.tmp 139)]) S (enters_of Try.func12 (by decide) rfl) rfl rfl rfl (young_any ha3 wa3 hc3 wc3 h3 wt3 _ (M.readAll 0 rfl (by unfold maxLen; omega)) (M.readAll 1 rfl (by unfold maxLen; omega))) ?_
  rintro _ w30 ⟨b, rfl, hK, hb⟩; obtain rfl := hb.2 hT3.young.young; refine ⟨_, rfl, ?_⟩; clear S a; intro a S; replace M := M.grow hK
  refine st_go [1, 1] S rfl (by kernel_rfl) ?_; clear S a; intro a S
  refine nxC ?_
  refine st_if (t := 142) S rfl ?_ ?_
  · clear S; intro h142 S
    exfalso; first | exact h142 | (simp at h142; done) | (cases h142)
  clear S; intro h142 S
  refine st_condF S rfl ?_
  refine wp_skip ?_
  refine block_normal ?_
  refine nxF ?_
  (first | refine st_y S rfl rfl rfl (y_addN S rfl rfl (by omega)) ?_ | refine st_y S rfl rfl rfl (y_int S rfl rfl rfl) ?_); clear S a; intro a S
  refine st_go [1] S rfl (by kernel_rfl) ?_; clear S a; intro a S
  refine nxC ?_
  first
    | exact ⟨l.length - (k2 + 1), by omega, k2 + 1, h3, wt3, ha3, wa3, hc3, wc3, _, _, _, _, by omega, rfl, hT3, by omega, S.sub _ rfl, M⟩
    | (have M2 := (((M.drop 0).drop 0).drop 0).drop 0
       exact ⟨l.length - (k2 + 1), by omega, k2 + 1, h, wt, ha, wa, hc, wc, _, _, _, _, by omega, rfl, hT, by omega, S.sub _ rfl, M2⟩)

end Go.Proofs.Ytcbofgcmfkcglaa
