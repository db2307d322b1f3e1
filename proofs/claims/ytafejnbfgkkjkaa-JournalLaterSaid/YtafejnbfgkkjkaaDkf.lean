/-
  Package disk: kept, Crash.
-/
import Derived.Test.YtafejnbfgkkjkaaGD
import Derived.Test.YtafejnbfgkkjkaaVP
namespace Go.Proofs.Ytafejnbfgkkjkaa
open Go.RowKit Go.Sort

abbrev kcellsL (p : Int × Int) : List Value := [.int .i64 p.1, .int .i64 p.2]
abbrev kcells (l : List (Int × Int)) : List Value := l.flatMap kcellsL
theorem kcells_length : ∀ l, (kcells l).length = l.length * 2
  | [] => rfl
  | x :: l => by
    show (kcellsL x ++ kcells l).length = _
    rw [List.length_append, kcells_length l]; simp; omega
theorem kcells_get {l : List (Int × Int)} {i : Nat} {x : Int × Int} (hx : l[i]? = some x) : ((kcells l).drop (i * 2)).take 2 = kcellsL x := by
  obtain ⟨hlt, he⟩ := List.getElem?_eq_some_iff.1 hx
  have e : kcells l = kcells (l.take i) ++ (kcellsL x ++ kcells (l.drop (i + 1))) := by
    conv => lhs; rw [← List.take_append_drop i l, List.drop_eq_getElem_cons hlt, he]
    simp [kcells]
  rw [e, show i * 2 = (kcells (l.take i)).length by rw [kcells_length, List.length_take]; omega, List.drop_left]
  rfl
/-- the write that a plan's entry keeps -/
def keptAt (secs : List Sec) (p : Int × Int) : Option RB := match secOf secs p.1 with
  | some s => if 1 ≤ p.2 then s.ws[(p.2 - 1).toNat]? else none
  | none => none
/-- what a crash keeps -/
def keptP (secs : List Sec) : List (Int × Int) → List Int → List (Nat × RB)
  | [], _ => []
  | p :: l, told => if (0 ≤ p.1 ∧ p.1 < 34) ∧ p.1 ∉ told then (match keptAt secs p with
      | some r => [(p.1.toNat, r)]
      | none => []) ++ keptP secs l (p.1 :: told) else keptP secs l told
abbrev encK (x : Nat × RB) : List Value := [.int .i64 (x.1 : Int), x.2.val]
def tcells (told : List Int) : List Value := (List.range 34).map fun i : Nat => .bool (decide ((i : Int) ∈ told))
theorem tcells_len (told : List Int) : (tcells told).length = 34 := by simp [tcells]
theorem tcells_get (told : List Int) {k : Nat} (h : k < 34) : (tcells told).toArray[k]? = some (.bool (decide ((k : Int) ∈ told))) := by
  rw [List.getElem?_toArray]; simp [tcells, h]
theorem tcells_put (told : List Int) {k : Nat} (h : k < 34) : putL (tcells told) k [.bool true] = tcells ((k : Int) :: told) := by
  have hl := tcells_len told
  have e : (tcells told)[k]'(by omega) = .bool (decide ((k : Int) ∈ told)) := by simp [tcells]
  have h1 : tcells told = (tcells told).take k ++ ([.bool (decide ((k : Int) ∈ told))] ++ (tcells told).drop (k + 1)) := by
    conv => lhs; rw [← List.take_append_drop k (tcells told), List.drop_eq_getElem_cons (by omega), e]
    rfl
  have h2 := putL_mid (A := (tcells told).take k) (B := [Value.bool (decide ((k : Int) ∈ told))]) (C := (tcells told).drop (k + 1)) (us := [.bool true]) rfl
  rw [show ((tcells told).take k).length = k by rw [List.length_take]; omega, ← h1] at h2
  rw [h2]
  refine List.ext_getElem? fun j => ?_
  by_cases hj : j < 34
  · have hr : (tcells ((k : Int) :: told))[j]? = some (.bool (decide ((j : Int) ∈ (k : Int) :: told))) := by simp [tcells, hj]
    rw [hr]
    rcases Nat.lt_trichotomy j k with h3 | h3 | h3
    · rw [List.getElem?_append_left (by rw [List.length_take]; omega), List.getElem?_take_of_lt h3]
      have : ¬ (j : Int) = (k : Int) := by omega
      simp [tcells, hj, this]
    · subst h3
      rw [List.getElem?_append_right (by rw [List.length_take]; omega), List.length_take, show j - min j (tcells told).length = 0 by omega]
      simp
    · rw [List.getElem?_append_right (by rw [List.length_take]; omega), List.length_take, show j - min k (tcells told).length = (j - k - 1) + 1 by omega]
      simp only [List.cons_append, List.nil_append, List.getElem?_cons_succ, List.getElem?_drop]
      rw [show k + 1 + (j - k - 1) = j by omega]
      have : ¬ (j : Int) = (k : Int) := by omega
      simp [tcells, hj, this]
  · rw [List.getElem?_eq_none (by simp only [List.length_append, List.length_take, List.length_cons, List.length_nil, List.length_drop, hl]; omega), List.getElem?_eq_none (by rw [tcells_len]; omega)]
/-- what kept's generator reads -/
structure KC (D : Dk) (bp bd : Nat) (pa : Option Addr) (pc : Nat) (plan : List (Int × Int)) (W : World) : Prop where
  disk : ∃ dur, dur.length = 2176 ∧ Blk W D.b (dcells dur D.m D.down).toArray 50
  map : W.heap[D.m]? = some (.map (D.ml.map (·.2)).toArray D.cl)
  rows : ∀ s ∈ D.secs, Rd 0 W.heap.size W 1 s.val s.ws.length (s.ws.map RB.val)
  pl : Blk W bp #[.slice pa plan.length pc] 37
  dp : Blk W bd #[.pointer (some ⟨D.b, 0, none⟩)] 24
  plan : Rd 0 W.heap.size W 2 (.slice pa plan.length pc) plan.length (kcells plan)

theorem KC.look {D : Dk} (O : D.Ok) (bp bd : Nat) (pa : Option Addr) (pc : Nat) (plan : List (Int × Int)) (k : Int) : ∃ (v : Value) (ws : List RB), (getM D.ml k).getD (.slice none 0 0) = v ∧ (∀ W, KC D bp bd pa pc plan W → Rd 0 W.heap.size W 1 v ws.length (ws.map RB.val)) ∧ (∀ n : Int, keptAt D.secs (k, n) = if 1 ≤ n then ws[(n - 1).toNat]? else none) := by
  cases hs : secOf D.secs k with
  | none => exact ⟨_, [], by rw [O.tell, hs]; rfl, fun _ _ => Rd.nil _ _ _ _, fun n => by unfold keptAt; simp [hs]⟩
  | some s =>
    obtain ⟨P, Q, e, hkey⟩ := secOf_some hs
    exact ⟨_, s.ws, by rw [O.tell, hs]; rfl, fun _ K => K.rows s (by rw [e]; simp), fun n => by unfold keptAt; simp only [hs]⟩
set_option maxHeartbeats 2000000 in
theorem kept1_gen {D : Dk} (O : D.Ok) (bp bd : Nat) (pa : Option Addr) (pc : Nat) (plan : List (Int × Int)) : GenM Try.prog 42 [.pointer (some ⟨bp, 0, none⟩), .pointer (some ⟨bd, 0, none⟩)] encK (keptP D.secs plan []) (KC D bp bd pa pc plan) := by
  intro ll w0 I X w Hs0 hC hY h0 M
  have K0 := hC _ _ _ h0 M
  have hpl := K0.plan.2.1
  unfold maxLen at hpl
  refine calls_enterG Try.func42 rfl 56 rfl rfl ?_; intro a S
  refine wpIn_seq ?_
  refine wpI_region (by kernel_rfl) (by rintro _ _ ⟨⟨_, h⟩, -⟩; cases h) ?_
  refine st_alloc S M rfl rfl #[.bool false, .bool false, .bool false, .bool false, .bool false, .bool false, .bool false, .bool false, .bool false, .bool false, .bool false, .bool false, .bool false, .bool false, .bool false, .bool false, .bool false, .bool false, .bool false, .bool false, .bool false, .bool false, .bool false, .bool false, .bool false, .bool false, .bool false, .bool false, .bool false, .bool false, .bool false, .bool false, .bool false, .bool false] (by kernel_rfl) ?_; clear S M a; intro a w1 bTO S M hB
  refine nxC ?_
  refine wpIn_seq ?_
  refine wpI_region (by kernel_rfl) (by rintro _ _ ⟨⟨_, h⟩, -⟩; cases h) ?_
  refine st_y S rfl rfl rfl (y_load S (by kernel_rfl) rfl (((hC _ _ _ h0 (M.drop 0)).pl).cells 0)) ?_; clear S a; intro a S
  refine st_y S rfl rfl rfl (y_lenS (E := 99) S rfl (by kernel_rfl)) ?_; clear S a; intro a S
  refine st_go [1] S rfl (by kernel_rfl) ?_; clear S a; intro a S
  refine nxC ?_
  refine wpIn_block ?_
  refine wpI_loop_g (fun m a w' => ∃ (i : Nat) (told : List Int) (pre : List (Nat × RB)) (Hs : List Ent), i ≤ plan.length ∧ m = plan.length - i ∧ I pre Hs ∧ pre ++ keptP D.secs (plan.drop i) told = keptP D.secs plan [] ∧ Sees 56 a [(0, .func (.yield ll) #[] #[]), (1, .pointer (some ⟨bp, 0, none⟩)), (2, .pointer (some ⟨bd, 0, none⟩)), (4, .pointer (some ⟨bTO, 0, none⟩)), (8, .slice pa plan.length pc), (9, .int .i64 (plan.length : Int)), (10, .int .i64 (i : Int))] ∧ Mem w0 w' (.blk bTO (tcells told).toArray 97 :: Hs)) (plan.length) ?_ ?_
  · skip
    exact ⟨0, [], [], Hs0, Nat.zero_le _, rfl, h0, rfl, S.sub _ rfl, M⟩
  clear S M a; intro m a wl
  rintro ⟨i, told, pre, Hs, hi', rfl, hI, hpre, S, M⟩
  have KK := hC _ _ _ hI (M.drop 0)
  refine wpIn_seq ?_
  refine wpI_region (by kernel_rfl) (by rintro _ _ ⟨⟨_, h⟩, -⟩; cases h) ?_
  refine st_go [1] S rfl (by kernel_rfl) ?_; clear S a; intro a S
  refine nxC ?_
  refine wpIn_seq ?_
  refine st_fi (t := 11) S rfl ?_ ?_
  · clear S; intro h11 S
    refine stI_condF S rfl ?_
    refine wpIn_exit ?_
    refine then_exit ?_
    refine then_exit ?_
    refine block_hit ?_
    refine end_noneN S rfl ?_
    obtain rfl : i = plan.length := by omega
    rw [List.drop_length, keptP, List.append_nil] at hpre
    exact ⟨⟨_, rfl⟩, Hs, M.drop 0, .inl (by rw [← hpre]; exact hI)⟩
  clear S; intro h11 S
  refine stI_condT S rfl ?_
  refine wpIn_skip ?_
  refine then_normal ?_
  refine wpIn_seq ?_
  refine wpIn_block ?_
  refine wpIn_seq ?_
  obtain ⟨p, hp⟩ : ∃ p, plan[i]? = some p := ⟨_, List.getElem?_eq_getElem (by omega)⟩
  have hdr : plan.drop i = p :: plan.drop (i + 1) := by
    obtain ⟨h9, e9⟩ := List.getElem?_eq_some_iff.1 hp
    rw [List.drop_eq_getElem_cons h9, e9]
  rw [hdr, keptP] at hpre
  refine wpI_region (by kernel_rfl) (by rintro _ _ ⟨⟨_, h⟩, -⟩; cases h) ?_
  refine st_y S rfl rfl rfl (y_indexR (e := 99) (sz := 2) S (by kernel_rfl) rfl (KK.plan) rfl (by first | omega | (simp; done) | (simp; omega))) ?_; clear S a; intro a S
  try simp only [Int.toNat_natCast, Nat.mul_one, Nat.zero_add] at S
  refine st_y S rfl rfl rfl (y_loadAgg S (by kernel_rfl) rfl rfl (KK.plan.at_.row (i := i) (kcells_get hp) rfl)) ?_; clear S a; intro a S
  refine st_alloc S M rfl rfl #[.int .i64 0, .int .i64 0] (by kernel_rfl) ?_; clear S M a; intro a w2 bKP S M hB
  refine st_store (sz := 2) (us := [_, _]) S M 0 rfl (by kernel_rfl) rfl rfl rfl rfl rfl rfl (by first | decide | (simp; done) | (simp; omega)) ?_; clear M; intro w3 M
  simp only [putL, List.set_cons_zero, List.set_cons_succ, Nat.reduceAdd] at M
  refine nxC ?_
  refine wpIn_seq ?_
  refine wpIn_seq ?_
  refine wpI_region (by kernel_rfl) (by rintro _ _ ⟨⟨_, h⟩, -⟩; cases h) ?_
  refine st_run [1, 1] S M rfl (by kernel_rfl) ?_; clear S a; intro a S
  refine st_call (xs := [(Operand.tmp 15)]) S (enters_of Try.func43 (by decide) rfl) rfl rfl rfl (is_any p.1 _) ?_
  rintro _ w4 ⟨rfl, hK⟩; refine ⟨_, rfl, ?_⟩; clear S a; intro a S; replace M := M.grow hK
  refine st_go [1, 1] S rfl (by kernel_rfl) ?_; clear S a; intro a S
  refine st_split (t := 18) S rfl ?_ ?_
  · clear S; intro h18 S
    refine st_go [0, 0] S rfl (by kernel_rfl) ?_; clear S a; intro a S
    refine st_no S rfl rfl rfl ?_; clear S a; intro a S
    refine st_go [0, 1] S rfl (by kernel_rfl) ?_; clear S a; intro a S
    refine nxC ?_
    refine stI_condT S rfl ?_
    refine wpIn_exit ?_
    refine then_exit ?_
    refine block_hit ?_
    refine then_normal ?_
    refine wpI_region (by kernel_rfl) (by rintro _ _ ⟨⟨_, h⟩, -⟩; cases h) ?_
    (first | refine st_y S rfl rfl rfl (y_addN S rfl rfl (by omega)) ?_ | refine st_y S rfl rfl rfl (y_int S rfl rfl rfl) ?_); clear S a; intro a S
    refine st_go [1] S rfl (by kernel_rfl) ?_; clear S a; intro a S
    refine nxC ?_
    skip
    replace M := M.drop 0
    simp only [List.eraseIdx_cons_succ, List.eraseIdx_cons_zero] at M
    first
      | (have hI2 : I (pre ++ [(kn, r)]) Hs2 := by
           rcases hb with ⟨-, h⟩ | ⟨rfl, -⟩
           · exact h
           · cases h54
         exact ⟨plan.length - (i + 1), by omega, i + 1, _, _, Hs2, by omega, rfl, hI2, by rw [← hpre, hkn]; simp, S.sub _ rfl, M⟩)
      | (suffices hno : keptAt D.secs p = none by
           rw [hno] at hpre
           exact ⟨plan.length - (i + 1), by omega, i + 1, _, _, Hs, by omega, rfl, hI, by rw [← hpre, hkn]; simp, S.sub _ rfl, M⟩
         rcases hcase with hno | hbad
         · exact hno
         · omega)
      | (rw [if_neg (fun hin => by first | (simp at h18; omega) | (rw [hkn] at hin; simp at h23; exact hin.2 h23))] at hpre
         exact ⟨plan.length - (i + 1), by omega, i + 1, told, pre, Hs, by omega, rfl, hI, hpre, S.sub _ rfl, M⟩)
  clear S; intro h18 S
  refine st_run [1, 1] S M rfl (by kernel_rfl) ?_; clear S a; intro a S
  obtain ⟨kn, hkn⟩ := Int.eq_ofNat_of_zero_le (show 0 ≤ p.1 by first | omega | (simp at h18; omega))
  have hk34 : kn < 34 := by first | omega | (simp at h18; omega)
  rw [hkn] at S
  refine st_y S rfl rfl rfl (y_indexA (m := 34) (sz := 1) S (by kernel_rfl) rfl rfl (by first | omega | (simp; done) | (simp; omega))) ?_; clear S a; intro a S
  try simp only [Int.toNat_natCast, Nat.mul_one, Nat.zero_add] at S
  refine st_y S rfl rfl rfl (y_load S (by kernel_rfl) rfl (M.cell 1 rfl (tcells_get told hk34))) ?_; clear S a; intro a S
  refine st_go [1] S rfl (by kernel_rfl) ?_; clear S a; intro a S
  refine nxC ?_
  refine st_split (t := 23) S rfl ?_ ?_
  · clear S; intro h23 S
    refine stI_condT S rfl ?_
    refine wpIn_exit ?_
    refine then_exit ?_
    refine block_hit ?_
    refine then_normal ?_
    refine wpI_region (by kernel_rfl) (by rintro _ _ ⟨⟨_, h⟩, -⟩; cases h) ?_
    (first | refine st_y S rfl rfl rfl (y_addN S rfl rfl (by omega)) ?_ | refine st_y S rfl rfl rfl (y_int S rfl rfl rfl) ?_); clear S a; intro a S
    refine st_go [1] S rfl (by kernel_rfl) ?_; clear S a; intro a S
    refine nxC ?_
    skip
    replace M := M.drop 0
    simp only [List.eraseIdx_cons_succ, List.eraseIdx_cons_zero] at M
    first
      | (have hI2 : I (pre ++ [(kn, r)]) Hs2 := by
           rcases hb with ⟨-, h⟩ | ⟨rfl, -⟩
           · exact h
           · cases h54
         exact ⟨plan.length - (i + 1), by omega, i + 1, _, _, Hs2, by omega, rfl, hI2, by rw [← hpre, hkn]; simp, S.sub _ rfl, M⟩)
      | (suffices hno : keptAt D.secs p = none by
           rw [hno] at hpre
           exact ⟨plan.length - (i + 1), by omega, i + 1, _, _, Hs, by omega, rfl, hI, by rw [← hpre, hkn]; simp, S.sub _ rfl, M⟩
         rcases hcase with hno | hbad
         · exact hno
         · omega)
      | (rw [if_neg (fun hin => by first | (simp at h18; omega) | (rw [hkn] at hin; simp at h23; exact hin.2 h23))] at hpre
         exact ⟨plan.length - (i + 1), by omega, i + 1, told, pre, Hs, by omega, rfl, hI, hpre, S.sub _ rfl, M⟩)
  clear S; intro h23 S
  refine stI_condF S rfl ?_
  refine wpIn_skip ?_
  refine then_normal ?_
  refine wpIn_seq ?_
  have hin : (0 ≤ p.1 ∧ p.1 < 34) ∧ p.1 ∉ told := ⟨by omega, by rw [hkn]; simpa using h23⟩
  rw [if_pos hin] at hpre
  refine wpI_region (by kernel_rfl) (by rintro _ _ ⟨⟨_, h⟩, -⟩; cases h) ?_
  refine st_run [1, 1] S M rfl (by kernel_rfl) ?_; clear S a; intro a S
  rw [hkn] at S
  refine st_y S rfl rfl rfl (y_indexA (m := 34) (sz := 1) S (by kernel_rfl) rfl rfl (by first | omega | (simp; done) | (simp; omega))) ?_; clear S a; intro a S
  try simp only [Int.toNat_natCast, Nat.mul_one, Nat.zero_add] at S
  refine st_store (sz := 1) (us := [_]) S M 1 rfl (by kernel_rfl) rfl rfl rfl rfl rfl rfl (by rw [tcells_len]; show _ + 1 ≤ 34; omega) ?_; clear M; intro w5 M
  simp only [List.set_cons_zero, List.set_cons_succ] at M
  replace S := S.sub [(0, _), (1, _), (2, _), (4, _), (8, _), (9, _), (10, _), (11, _), (6, _), (23, _)] rfl
  refine nxC ?_
  refine wpIn_seq ?_
  rw [tcells_put told hk34] at M
  obtain ⟨v, ws, hval, hRd, hka⟩ := KC.look O bp bd pa pc plan p.1
  have hka := hka p.2
  have hcase : keptAt D.secs p = none ∨ (1 ≤ p.2 ∧ p.2 ≤ (ws.length : Int)) := by
    by_cases h1 : 1 ≤ p.2 ∧ p.2 ≤ (ws.length : Int)
    · exact .inr h1
    · refine .inl ?_
      rw [hka]
      split
      · exact List.getElem?_eq_none (by omega)
      · rfl
  refine wpI_regionK [] #[false, false, false, false, false, false, false, false] rfl M (by kernel_rfl) (by kernel_rfl) (by rintro _ _ ⟨⟨_, h⟩, -⟩; cases h) ?_; clear M; intro w6 M
  refine k_read (listed' := #[true, false, false, false, false, false, false, false]) 0 S rfl rfl rfl rfl (by kernel_rfl) rfl (fun _ d _ _ _ h => by cases d <;> exact h) (fun w hW => have M := M.grow hW; y_load S (by kernel_rfl) rfl ((hC _ _ _ hI ((M.drop 0).drop 0)).dp.cells 0)) ?_; clear S a; intro a S
  refine k_pure (listed' := #[true, true, false, false, false, false, false, false]) 1 S rfl rfl rfl rfl (by kernel_rfl) rfl (fun _ d _ _ _ h => by cases d <;> exact h) (fun w => y_nilCheck S rfl) ?_; clear S a; intro a S
  refine k_pure (listed' := #[true, true, true, false, false, false, false, false]) 2 S rfl rfl rfl rfl (by kernel_rfl) rfl (fun _ d _ _ _ h => by cases d <;> exact h) (fun w => y_fieldAddr (k := 2176) S (by kernel_rfl) rfl) ?_; clear S a; intro a S
  refine k_read (listed' := #[true, true, true, true, false, false, false, false]) 3 S rfl rfl rfl rfl (by kernel_rfl) rfl (fun _ d _ _ _ h => by cases d <;> exact h) (fun w hW => have M := M.grow hW; y_load S (by kernel_rfl) rfl ((by obtain ⟨dur, hd, hB⟩ := (hC _ _ _ hI ((M.drop 0).drop 0)).disk; exact (hB.cells 2176).trans (dcells_map hd _ _)))) ?_; clear S a; intro a S
  refine k_pure (listed' := #[true, true, true, true, true, false, false, false]) 4 S rfl rfl rfl rfl (by kernel_rfl) rfl (fun _ d _ _ _ h => by cases d <;> exact h) (fun w => y_fieldAddr (k := 0) S (by kernel_rfl) rfl) ?_; clear S a; intro a S
  refine k_read (listed' := #[true, true, true, true, true, true, false, false]) 5 S rfl rfl rfl rfl (by kernel_rfl) rfl (fun _ d _ _ _ h => by cases d <;> exact h) (fun w hW => have M := M.grow hW; y_load S (by kernel_rfl) rfl (M.cell 0 rfl rfl)) ?_; clear S a; intro a S
  refine k_read (listed' := #[true, true, true, true, true, true, true, false]) 6 S rfl rfl rfl rfl (by kernel_rfl) rfl (fun _ d _ _ _ h => by cases d <;> exact h) (fun w hW => have M := M.grow hW; y_lookupB S ((hC _ _ _ hI ((M.drop 0).drop 0)).map) (keyJ) (O.good) Try.underlying46 (zero_sl) rfl rfl) ?_; clear S a; intro a S
  simp only [Bool.false_eq_true, if_false, hval] at S
  refine k_pure (listed' := #[true, true, true, true, true, true, true, true]) 7 S rfl rfl rfl rfl (by kernel_rfl) rfl (fun _ d _ _ _ h => by cases d <;> exact h) (fun w => y_assign S rfl) ?_; clear S a; intro a S
  refine k_end (by kernel_rfl) ?_
  refine then_normal ?_
  refine wpIn_seq ?_
  refine wpIn_seq ?_
  refine wpI_region (by kernel_rfl) (by rintro _ _ ⟨⟨_, h⟩, -⟩; cases h) ?_
  refine st_run [2, 1, 1, 1] S M rfl (by kernel_rfl) ?_; clear S a; intro a S
  refine st_if (t := 37) S rfl ?_ ?_
  · clear S; intro h37 S
    refine st_go [0, 0, 0, 0, 0, 1] S rfl (by kernel_rfl) ?_; clear S a; intro a S
    replace S := S.sub [(0, _), (1, _), (2, _), (4, _), (8, _), (9, _), (10, _), (11, _), (6, _), (23, _), (7, _), (43, _)] rfl
    refine nxC ?_
    refine stI_condT S rfl ?_
    refine wpIn_exit ?_
    refine then_exit ?_
    refine block_hit ?_
    refine then_normal ?_
    refine wpI_region (by kernel_rfl) (by rintro _ _ ⟨⟨_, h⟩, -⟩; cases h) ?_
    (first | refine st_y S rfl rfl rfl (y_addN S rfl rfl (by omega)) ?_ | refine st_y S rfl rfl rfl (y_int S rfl rfl rfl) ?_); clear S a; intro a S
    refine st_go [1] S rfl (by kernel_rfl) ?_; clear S a; intro a S
    refine nxC ?_
    skip
    replace M := M.drop 0
    simp only [List.eraseIdx_cons_succ, List.eraseIdx_cons_zero] at M
    first
      | (have hI2 : I (pre ++ [(kn, r)]) Hs2 := by
           rcases hb with ⟨-, h⟩ | ⟨rfl, -⟩
           · exact h
           · cases h54
         exact ⟨plan.length - (i + 1), by omega, i + 1, _, _, Hs2, by omega, rfl, hI2, by rw [← hpre, hkn]; simp, S.sub _ rfl, M⟩)
      | (suffices hno : keptAt D.secs p = none by
           rw [hno] at hpre
           exact ⟨plan.length - (i + 1), by omega, i + 1, _, _, Hs, by omega, rfl, hI, by rw [← hpre, hkn]; simp, S.sub _ rfl, M⟩
         rcases hcase with hno | hbad
         · exact hno
         · omega)
      | (rw [if_neg (fun hin => by first | (simp at h18; omega) | (rw [hkn] at hin; simp at h23; exact hin.2 h23))] at hpre
         exact ⟨plan.length - (i + 1), by omega, i + 1, told, pre, Hs, by omega, rfl, hI, hpre, S.sub _ rfl, M⟩)
  clear S; intro h37 S
  refine st_run [2, 1, 1] S M rfl (by kernel_rfl) ?_; clear S a; intro a S
  refine st_y S rfl rfl rfl (y_lenR (E := 32) S rfl (hRd _ (hC _ _ _ hI ((M.drop 0).drop 0))) (by kernel_rfl)) ?_; clear S a; intro a S
  refine st_go [1, 1] S rfl (by kernel_rfl) ?_; clear S a; intro a S
  replace S := S.sub [(0, _), (1, _), (2, _), (4, _), (8, _), (9, _), (10, _), (11, _), (6, _), (23, _), (7, _), (43, _)] rfl
  refine nxC ?_
  refine st_if (t := 43) S rfl ?_ ?_
  · clear S; intro h43 S
    refine stI_condT S rfl ?_
    refine wpIn_exit ?_
    refine then_exit ?_
    refine block_hit ?_
    refine then_normal ?_
    refine wpI_region (by kernel_rfl) (by rintro _ _ ⟨⟨_, h⟩, -⟩; cases h) ?_
    (first | refine st_y S rfl rfl rfl (y_addN S rfl rfl (by omega)) ?_ | refine st_y S rfl rfl rfl (y_int S rfl rfl rfl) ?_); clear S a; intro a S
    refine st_go [1] S rfl (by kernel_rfl) ?_; clear S a; intro a S
    refine nxC ?_
    skip
    replace M := M.drop 0
    simp only [List.eraseIdx_cons_succ, List.eraseIdx_cons_zero] at M
    first
      | (have hI2 : I (pre ++ [(kn, r)]) Hs2 := by
           rcases hb with ⟨-, h⟩ | ⟨rfl, -⟩
           · exact h
           · cases h54
         exact ⟨plan.length - (i + 1), by omega, i + 1, _, _, Hs2, by omega, rfl, hI2, by rw [← hpre, hkn]; simp, S.sub _ rfl, M⟩)
      | (suffices hno : keptAt D.secs p = none by
           rw [hno] at hpre
           exact ⟨plan.length - (i + 1), by omega, i + 1, _, _, Hs, by omega, rfl, hI, by rw [← hpre, hkn]; simp, S.sub _ rfl, M⟩
         rcases hcase with hno | hbad
         · exact hno
         · omega)
      | (rw [if_neg (fun hin => by first | (simp at h18; omega) | (rw [hkn] at hin; simp at h23; exact hin.2 h23))] at hpre
         exact ⟨plan.length - (i + 1), by omega, i + 1, told, pre, Hs, by omega, rfl, hI, hpre, S.sub _ rfl, M⟩)
  clear S; intro h43 S
  refine stI_condF S rfl ?_
  refine wpIn_skip ?_
  refine then_normal ?_
  refine wpIn_seq ?_
  obtain ⟨r, hr⟩ : ∃ r, ws[(p.2 - 1).toNat]? = some r := ⟨_, List.getElem?_eq_getElem (by omega)⟩
  have hkr : keptAt D.secs p = some r := by rw [hka, if_pos (by omega), hr]
  have hwb := (hRd _ (hC _ _ _ hI ((M.drop 0).drop 0))).2.1
  unfold maxLen at hwb
  rw [hkr] at hpre
  refine wpI_tail 9 M (by kernel_rfl) (by kernel_rfl) (by kernel_rfl) (by rintro _ _ ⟨⟨_, h⟩, -⟩; cases h) ?_; simp only [List.take_succ_cons, List.take_zero, List.drop_succ_cons, List.drop_zero]
  refine qt_y S rfl rfl rfl (fun w M => y_move S rfl) ?_; clear S a; intro a S
  refine qt_y S rfl rfl rfl (fun w M => y_fieldAddr (k := 0) S (by kernel_rfl) rfl) ?_; clear S a; intro a S
  refine qt_y S rfl rfl rfl (fun w M => y_load S (by kernel_rfl) rfl (M.cell 0 rfl rfl)) ?_; clear S a; intro a S
  refine qt_y S rfl rfl rfl (fun w M => y_move S rfl) ?_; clear S a; intro a S
  refine qt_y S rfl rfl rfl (fun w M => y_fieldAddr (k := 1) S (by kernel_rfl) rfl) ?_; clear S a; intro a S
  refine qt_y S rfl rfl rfl (fun w M => y_load S (by kernel_rfl) rfl (M.cell 0 rfl rfl)) ?_; clear S a; intro a S
  (first | refine qt_y S rfl rfl rfl (fun w M => y_subN S rfl rfl (by omega)) ?_ | refine qt_y S rfl rfl rfl (fun w M => y_int S rfl rfl rfl) ?_); clear S a; intro a S
  rw [show p.2 - 1 = (((p.2 - 1).toNat : Nat) : Int) by omega] at S
  refine qt_y S rfl rfl rfl (fun w M => y_indexR (e := 32) (sz := 1) S (by kernel_rfl) rfl (hRd _ (hC _ _ _ hI ((M.drop 0).drop 0))) rfl (by first | omega | (simp; done) | (simp; omega))) ?_; clear S a; intro a S
  try simp only [Int.toNat_natCast, Nat.mul_one, Nat.zero_add] at S
  refine qt_y S rfl rfl rfl (fun w M => y_load S (by kernel_rfl) rfl ((hRd _ (hC _ _ _ hI ((M.drop 0).drop 0))).at_.one (p.2 - 1).toNat (by rw [List.getElem?_map, hr]; rfl))) ?_; clear S a; intro a S
  refine wpQuiet_nil ?_; clear M; intro w7 M
  rw [hkn] at S
  refine stI_yield (xs := [(Operand.tmp 46), (Operand.tmp 52)]) S rfl (by kernel_rfl) rfl rfl (hY pre (kn, r) _ [_, _] Hs _ (by rw [← hpre, hkn]; simp; rfl) hI M) ?_
  rintro e w8 ⟨Hs2, M2, hh⟩
  obtain ⟨bb, rfl, hb⟩ : ∃ bb, e = .returned (.bool bb) ∧ ((bb = true ∧ I (pre ++ [(kn, r)]) Hs2) ∨ (bb = false ∧ X (pre ++ [(kn, r)]) Hs2)) := by
    rcases hh with ⟨rfl, h⟩ | ⟨rfl, h⟩
    · exact ⟨true, rfl, .inl ⟨rfl, h⟩⟩
    · exact ⟨false, rfl, .inr ⟨rfl, h⟩⟩
  refine ⟨_, rfl, ?_⟩; clear S M a; intro a S; have M := M2; clear M2
  simp only [List.cons_append, List.nil_append] at M
  refine list_in (by kernel_rfl) (by rintro _ _ ⟨⟨_, h⟩, -⟩; cases h) ?_
  refine st_go [1] S rfl (by kernel_rfl) ?_; clear S a; intro a S
  refine nxC ?_
  refine st_split (t := 54) S rfl ?_ ?_
  · clear S; intro h54 S
    refine stI_condT S rfl ?_
    refine wpIn_ret ?_
    refine block_ret ?_
    refine then_ret ?_
    refine then_ret ?_
    refine block_ret ?_
    refine end_none S rfl ?_
    refine ⟨⟨_, rfl⟩, Hs2, (M.drop 0).drop 0, .inr ⟨pre, (kn, r), _, by rw [← hpre, hkn]; simp; rfl, ?_⟩⟩
    rcases hb with ⟨rfl, -⟩ | ⟨-, h⟩
    · cases h54
    · exact h
  clear S; intro h54 S
  refine stI_condF S rfl ?_
  refine wpIn_skip ?_
  refine block_normal ?_
  refine then_normal ?_
  refine wpI_region (by kernel_rfl) (by rintro _ _ ⟨⟨_, h⟩, -⟩; cases h) ?_
  (first | refine st_y S rfl rfl rfl (y_addN S rfl rfl (by omega)) ?_ | refine st_y S rfl rfl rfl (y_int S rfl rfl rfl) ?_); clear S a; intro a S
  refine st_go [1] S rfl (by kernel_rfl) ?_; clear S a; intro a S
  refine nxC ?_
  skip
  replace M := M.drop 0
  simp only [List.eraseIdx_cons_succ, List.eraseIdx_cons_zero] at M
  first
    | (have hI2 : I (pre ++ [(kn, r)]) Hs2 := by
         rcases hb with ⟨-, h⟩ | ⟨rfl, -⟩
         · exact h
         · cases h54
       exact ⟨plan.length - (i + 1), by omega, i + 1, _, _, Hs2, by omega, rfl, hI2, by rw [← hpre, hkn]; simp, S.sub _ rfl, M⟩)
    | (suffices hno : keptAt D.secs p = none by
         rw [hno] at hpre
         exact ⟨plan.length - (i + 1), by omega, i + 1, _, _, Hs, by omega, rfl, hI, by rw [← hpre, hkn]; simp, S.sub _ rfl, M⟩
       rcases hcase with hno | hbad
       · exact hno
       · omega)
    | (rw [if_neg (fun hin => by first | (simp at h18; omega) | (rw [hkn] at hin; simp at h23; exact hin.2 h23))] at hpre
       exact ⟨plan.length - (i + 1), by omega, i + 1, told, pre, Hs, by omega, rfl, hI, hpre, S.sub _ rfl, M⟩)

end Go.Proofs.Ytafejnbfgkkjkaa
