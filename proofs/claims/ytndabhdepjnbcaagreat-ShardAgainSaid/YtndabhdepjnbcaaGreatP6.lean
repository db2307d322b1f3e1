/-
  What ShardAgain rests on, part 6.
-/
import Derived.Test.YtndabhdepjnbcaaGreatP5
namespace Go.Proofs.YtndabhdepjnbcaaGreat
open Go.RowKit Go.Sort
abbrev kcellsL (p : Int × Int) : List Value := [.int .i64 p.1, .int .i64 p.2]
abbrev kcells (l : List (Int × Int)) : List Value := l.flatMap kcellsL
theorem kcells_length : ∀ l, (kcells l).length = l.length * 2
 | [] => rfl
 | x :: l => by
   show (kcellsL x ++ kcells l).length = _
   rw [List.length_append, kcells_length l]; simp; omega
theorem kcells_get {l : List (Int × Int)} {i : Nat} {x : Int × Int} (hx : l[i]? = some x) : ((kcells l).drop (i * 2)).take 2 = kcellsL x := by
 obtain ⟨hlt, he⟩ := List.getElem?_eq_some_iff.1 hx
 have e : kcells l = kcells (l.take i) ++ (kcellsL x ++ kcells (l.drop (i + 1))) := by
  conv => lhs; rw [← List.take_append_drop i l, List.drop_eq_getElem_cons hlt, he]
  simp [kcells]
 rw [e, show i * 2 = (kcells (l.take i)).length by rw [kcells_length, List.length_take]; omega, List.drop_left]
 rfl
def keptAt (secs : List Sec) (p : Int × Int) : Option RB := match secOf secs p.1 with
 | some s => if 1 ≤ p.2 then s.ws[(p.2 - 1).toNat]? else none
 | none => none
def keptP (secs : List Sec) : List (Int × Int) → List Int → List (Nat × RB)
 | [], _ => []
 | p :: l, told => if (0 ≤ p.1 ∧ p.1 < 34) ∧ p.1 ∉ told then (match keptAt secs p with
    | some r => [(p.1.toNat, r)]
    | none => []) ++ keptP secs l (p.1 :: told) else keptP secs l told
abbrev encK (x : Nat × RB) : List Value := [.int .i64 (x.1 : Int), x.2.val]
def tcells (told : List Int) : List Value := (List.range 34).map fun i : Nat => .bool (decide ((i : Int) ∈ told))
theorem tcells_len (told : List Int) : (tcells told).length = 34 := by simp [tcells]
theorem tcells_get (told : List Int) {k : Nat} (h : k < 34) : (tcells told).toArray[k]? = some (.bool (decide ((k : Int) ∈ told))) := by
 rw [List.getElem?_toArray]; simp [tcells, h]
theorem tcells_put (told : List Int) {k : Nat} (h : k < 34) : putL (tcells told) k [.bool true] = tcells ((k : Int) :: told) := by
 have hl := tcells_len told
 have e : (tcells told)[k]'(by omega) = .bool (decide ((k : Int) ∈ told)) := by simp [tcells]
 have h1 : tcells told = (tcells told).take k ++ ([.bool (decide ((k : Int) ∈ told))] ++ (tcells told).drop (k + 1)) := by
  conv => lhs; rw [← List.take_append_drop k (tcells told), List.drop_eq_getElem_cons (by omega), e]
  rfl
 have h2 := putL_mid (A := (tcells told).take k) (B := [Value.bool (decide ((k : Int) ∈ told))]) (C := (tcells told).drop (k + 1)) (us := [.bool true]) rfl
 rw [show ((tcells told).take k).length = k by rw [List.length_take]; omega, ← h1] at h2
 rw [h2]
 refine List.ext_getElem? fun j => ?_
 by_cases hj : j < 34
 ·have hr : (tcells ((k : Int) :: told))[j]? = some (.bool (decide ((j : Int) ∈ (k : Int) :: told))) := by simp [tcells, hj]
  rw [hr]
  rcases Nat.lt_trichotomy j k with h3 | h3 | h3
  ·rw [List.getElem?_append_left (by rw [List.length_take]; omega), List.getElem?_take_of_lt h3]
   have : ¬ (j : Int) = (k : Int) := by omega
   simp [tcells, hj, this]
  ·subst h3
   rw [List.getElem?_append_right (by rw [List.length_take]; omega), List.length_take, show j - min j (tcells told).length = 0 by omega]
   simp
  ·rw [List.getElem?_append_right (by rw [List.length_take]; omega), List.length_take, show j - min k (tcells told).length = (j - k - 1) + 1 by omega]
   simp only [List.cons_append, List.nil_append, List.getElem?_cons_succ, List.getElem?_drop]
   rw [show k + 1 + (j - k - 1) = j by omega]
   have : ¬ (j : Int) = (k : Int) := by omega
   simp [tcells, hj, this]
 ·rw [List.getElem?_eq_none (by simp only [List.length_append, List.length_take, List.length_cons, List.length_nil, List.length_drop, hl]; omega), List.getElem?_eq_none (by rw [tcells_len]; omega)]
structure KC (D : Dk) (bp bd : Nat) (pa : Option Addr) (pc : Nat) (plan : List (Int × Int)) (W : World) : Prop where
 disk : ∃ dur, dur.length = 2176 ∧ Blk W D.b (dcells dur D.m D.down).toArray 87
 map : W.heap[D.m]? = some (.map (D.ml.map (·.2)).toArray D.cl)
 rows : ∀ s ∈ D.secs, Rd 0 W.heap.size W 1 s.val s.ws.length (s.ws.map RB.val)
 pl : Blk W bp #[.slice pa plan.length pc] 42
 dp : Blk W bd #[.pointer (some ⟨D.b, 0, none⟩)] 38
 plan : Rd 0 W.heap.size W 2 (.slice pa plan.length pc) plan.length (kcells plan)
theorem KC.look {D : Dk} (O : D.Ok) (bp bd : Nat) (pa : Option Addr) (pc : Nat) (plan : List (Int × Int)) (k : Int) : ∃ (v : Value) (ws : List RB), (getM D.ml k).getD (.slice none 0 0) = v ∧ (∀ W, KC D bp bd pa pc plan W → Rd 0 W.heap.size W 1 v ws.length (ws.map RB.val)) ∧ (∀ n : Int, keptAt D.secs (k, n) = if 1 ≤ n then ws[(n - 1).toNat]? else none) := by
 cases hs : secOf D.secs k with
 | none => exact ⟨_, [], by rw [O.tell, hs]; rfl, fun _ _ => Rd.nil _ _ _ _, fun n => by unfold keptAt; simp [hs]⟩
 | some s =>
   obtain ⟨P, Q, e, hkey⟩ := secOf_some hs
   exact ⟨_, s.ws, by rw [O.tell, hs]; rfl, fun _ K => K.rows s (by rw [e]; simp), fun n => by unfold keptAt; simp only [hs]⟩
set_option maxHeartbeats 2000000 in
theorem kept1_gen {D : Dk} (O : D.Ok) (bp bd : Nat) (pa : Option Addr) (pc : Nat) (plan : List (Int × Int)) : GenM Tryz.prog 60 [.pointer (some ⟨bp, 0, none⟩), .pointer (some ⟨bd, 0, none⟩)] encK (keptP D.secs plan []) (KC D bp bd pa pc plan) := by
 intro ll w0 I X w Hs0 hC hY h0 M
 have K0 := hC _ _ _ h0 M
 have hpl := K0.plan.2.1
 unfold maxLen at hpl
 refine calls_enterG Tryz.func60 rfl 56 rfl rfl ?_; intro a S
 refine wpIn_seq ?_
 refine wpI_region (by kernel_rfl) (by rintro _ _ ⟨⟨_, h⟩, -⟩; cases h) ?_
 refine st_alloc S M rfl rfl #[.bool false, .bool false, .bool false, .bool false, .bool false, .bool false, .bool false, .bool false, .bool false, .bool false, .bool false, .bool false, .bool false, .bool false, .bool false, .bool false, .bool false, .bool false, .bool false, .bool false, .bool false, .bool false, .bool false, .bool false, .bool false, .bool false, .bool false, .bool false, .bool false, .bool false, .bool false, .bool false, .bool false, .bool false] (by kernel_rfl) ?_; clear S M a; intro a w1 bTO S M hB
 refine nxC (wpIn_seq ?_)
 refine wpI_region (by kernel_rfl) (by rintro _ _ ⟨⟨_, h⟩, -⟩; cases h) ?_
 refine qY S (y_load S (by kernel_rfl) rfl (((hC _ _ _ h0 (M.drop 0)).pl).cells 0)) ?_; clear S a; intro a S
 refine qY S (y_lenS (E := 136) S rfl (by kernel_rfl)) ?_; clear S a; intro a S
 refine qG [1] S ?_; clear S a; intro a S
 refine nxC (wpIn_block ?_)
 refine wpI_loop_g (fun m a w' => ∃ (i : Nat) (told : List Int) (pre : List (Nat × RB)) (Hs : List Ent), i ≤ plan.length ∧ m = plan.length - i ∧ I pre Hs ∧ pre ++ keptP D.secs (plan.drop i) told = keptP D.secs plan [] ∧ Sees 56 a [(0, .func (.yield ll) #[] #[]), (1, .pointer (some ⟨bp, 0, none⟩)), (2, .pointer (some ⟨bd, 0, none⟩)), (4, .pointer (some ⟨bTO, 0, none⟩)), (8, .slice pa plan.length pc), (9, .int .i64 (plan.length : Int)), (10, .int .i64 (i : Int))] ∧ Mem w0 w' (.blk bTO (tcells told).toArray 134 :: Hs)) (plan.length) ?_ ?_
 ·skip
  exact ⟨0, [], [], Hs0, Nat.zero_le _, rfl, h0, rfl, S.sub _ rfl, M⟩
 clear S M a; intro m a wl
 rintro ⟨i, told, pre, Hs, hi', rfl, hI, hpre, S, M⟩
 have KK := hC _ _ _ hI (M.drop 0)
 refine wpIn_seq ?_
 refine wpI_region (by kernel_rfl) (by rintro _ _ ⟨⟨_, h⟩, -⟩; cases h) ?_
 refine qG [1] S ?_; clear S a; intro a S
 refine nxC (wpIn_seq ?_)
 refine st_fi (t := 11) S rfl ?_ ?_
 ·clear S; intro h11 S
  refine stI_condF S rfl ?_
  refine wpIn_exit ?_
  refine then_exit (then_exit (block_hit (end_noneN S rfl ?_)))
  obtain rfl : i = plan.length := by omega
  rw [List.drop_length, keptP, List.append_nil] at hpre
  exact ⟨⟨_, rfl⟩, Hs, M.drop 0, .inl (by rw [← hpre]; exact hI)⟩
 clear S; intro h11 S
 refine stI_condT S rfl ?_
 refine wpIn_skip ?_
 refine then_normal (wpIn_seq ?_)
 refine wpIn_block ?_
 refine wpIn_seq ?_
 obtain ⟨p, hp⟩ : ∃ p, plan[i]? = some p := ⟨_, List.getElem?_eq_getElem (by omega)⟩
 have hdr : plan.drop i = p :: plan.drop (i + 1) := by
  obtain ⟨h9, e9⟩ := List.getElem?_eq_some_iff.1 hp
  rw [List.drop_eq_getElem_cons h9, e9]
 rw [hdr, keptP] at hpre
 refine wpI_region (by kernel_rfl) (by rintro _ _ ⟨⟨_, h⟩, -⟩; cases h) ?_
 refine qY S (y_indexR (e := 136) (sz := 2) S (by kernel_rfl) rfl (KK.plan) rfl (by first | omega | (simp; done) | (simp; omega))) ?_; clear S a; intro a S
 try simp only [Int.toNat_natCast, Nat.mul_one, Nat.zero_add] at S
 refine qY S (y_loadAgg S (by kernel_rfl) rfl rfl (KK.plan.at_.row (i := i) (kcells_get hp) rfl)) ?_; clear S a; intro a S
 refine st_alloc S M rfl rfl #[.int .i64 0, .int .i64 0] (by kernel_rfl) ?_; clear S M a; intro a w2 bKP S M hB
 refine qS (sz := 2) (us := [_, _]) S M 0 ?_; clear M; intro w3 M
 refine nxC (wpIn_seq ?_)
 refine wpIn_seq ?_
 refine wpI_region (by kernel_rfl) (by rintro _ _ ⟨⟨_, h⟩, -⟩; cases h) ?_
 refine qR [1, 1] S M ?_; clear S a; intro a S
 refine qQ (xs := [.tmp 15]) S (qE Tryz.func61) rfl (is_any p.1 _) M ?_; clear S M a; intro a w4 S hK M
 refine qG [1, 1] S ?_; clear S a; intro a S
 refine st_split (t := 18) S rfl ?_ ?_
 ·clear S; intro h18 S
  refine qG [0, 0] S ?_; clear S a; intro a S
  refine st_no S rfl rfl rfl ?_; clear S a; intro a S
  refine qG [0, 1] S ?_; clear S a; intro a S
  refine nxC (stI_condT S rfl ?_)
  refine wpIn_exit ?_
  refine then_exit (block_hit (then_normal (wpI_region (by kernel_rfl) (by rintro _ _ ⟨⟨_, h⟩, -⟩; cases h) ?_)))
  (first | refine qY S (y_addN S rfl rfl (by omega)) ?_ | refine qY S (y_int S rfl rfl rfl) ?_); clear S a; intro a S
  refine qG [1] S ?_; clear S a; intro a S
  refine nxC ?_
  skip
  replace M := M.drop 0
  simp only [List.eraseIdx_cons_succ, List.eraseIdx_cons_zero] at M
  first
   | (have hI2 : I (pre ++ [(kn, r)]) Hs2 := by
       rcases hb with ⟨-, h⟩ | ⟨rfl, -⟩
       ·exact h
       ·cases h54
      exact ⟨plan.length - (i + 1), by omega, i + 1, _, _, Hs2, by omega, rfl, hI2, by rw [← hpre, hkn]; simp, S.sub _ rfl, M⟩)
   | (suffices hno : keptAt D.secs p = none by
       rw [hno] at hpre
       exact ⟨plan.length - (i + 1), by omega, i + 1, _, _, Hs, by omega, rfl, hI, by rw [← hpre, hkn]; simp, S.sub _ rfl, M⟩
      rcases hcase with hno | hbad
      ·exact hno
      ·omega)
   | (rw [if_neg (fun hin => by first | (simp at h18; omega) | (rw [hkn] at hin; simp at h23; exact hin.2 h23))] at hpre
      exact ⟨plan.length - (i + 1), by omega, i + 1, told, pre, Hs, by omega, rfl, hI, hpre, S.sub _ rfl, M⟩)
 clear S; intro h18 S
 refine qR [1, 1] S M ?_; clear S a; intro a S
 obtain ⟨kn, hkn⟩ := Int.eq_ofNat_of_zero_le (show 0 ≤ p.1 by first | omega | (simp at h18; omega))
 have hk34 : kn < 34 := by first | omega | (simp at h18; omega)
 rw [hkn] at S
 refine qY S (y_indexA (m := 34) (sz := 1) S (by kernel_rfl) rfl rfl (by first | omega | (simp; done) | (simp; omega))) ?_; clear S a; intro a S
 try simp only [Int.toNat_natCast, Nat.mul_one, Nat.zero_add] at S
 refine qY S (y_load S (by kernel_rfl) rfl (M.cell 1 rfl (tcells_get told hk34))) ?_; clear S a; intro a S
 refine qG [1] S ?_; clear S a; intro a S
 refine nxC (st_split (t := 23) S rfl ?_ ?_)
 ·clear S; intro h23 S
  refine stI_condT S rfl ?_
  refine wpIn_exit ?_
  refine then_exit (block_hit (then_normal (wpI_region (by kernel_rfl) (by rintro _ _ ⟨⟨_, h⟩, -⟩; cases h) ?_)))
  (first | refine qY S (y_addN S rfl rfl (by omega)) ?_ | refine qY S (y_int S rfl rfl rfl) ?_); clear S a; intro a S
  refine qG [1] S ?_; clear S a; intro a S
  refine nxC ?_
  skip
  replace M := M.drop 0
  simp only [List.eraseIdx_cons_succ, List.eraseIdx_cons_zero] at M
  first
   | (have hI2 : I (pre ++ [(kn, r)]) Hs2 := by
       rcases hb with ⟨-, h⟩ | ⟨rfl, -⟩
       ·exact h
       ·cases h54
      exact ⟨plan.length - (i + 1), by omega, i + 1, _, _, Hs2, by omega, rfl, hI2, by rw [← hpre, hkn]; simp, S.sub _ rfl, M⟩)
   | (suffices hno : keptAt D.secs p = none by
       rw [hno] at hpre
       exact ⟨plan.length - (i + 1), by omega, i + 1, _, _, Hs, by omega, rfl, hI, by rw [← hpre, hkn]; simp, S.sub _ rfl, M⟩
      rcases hcase with hno | hbad
      ·exact hno
      ·omega)
   | (rw [if_neg (fun hin => by first | (simp at h18; omega) | (rw [hkn] at hin; simp at h23; exact hin.2 h23))] at hpre
      exact ⟨plan.length - (i + 1), by omega, i + 1, told, pre, Hs, by omega, rfl, hI, hpre, S.sub _ rfl, M⟩)
 clear S; intro h23 S
 refine stI_condF S rfl ?_
 refine wpIn_skip ?_
 refine then_normal (wpIn_seq ?_)
 have hin : (0 ≤ p.1 ∧ p.1 < 34) ∧ p.1 ∉ told := ⟨by omega, by rw [hkn]; simpa using h23⟩
 rw [if_pos hin] at hpre
 refine wpI_region (by kernel_rfl) (by rintro _ _ ⟨⟨_, h⟩, -⟩; cases h) ?_
 refine qR [1, 1] S M ?_; clear S a; intro a S
 rw [hkn] at S
 refine qY S (y_indexA (m := 34) (sz := 1) S (by kernel_rfl) rfl rfl (by first | omega | (simp; done) | (simp; omega))) ?_; clear S a; intro a S
 try simp only [Int.toNat_natCast, Nat.mul_one, Nat.zero_add] at S
 refine st_store (sz := 1) (us := [_]) S M 1 rfl (by kernel_rfl) rfl rfl rfl rfl rfl rfl (by rw [tcells_len]; show _ + 1 ≤ 34; omega) ?_; clear M; intro w5 M
 simp only [List.set_cons_zero, List.set_cons_succ] at M
 replace S := S.keep [0, 1, 2, 4, 8, 9, 10, 11, 6, 23]
 refine nxC (wpIn_seq ?_)
 rw [tcells_put told hk34] at M
 obtain ⟨v, ws, hval, hRd, hka⟩ := KC.look O bp bd pa pc plan p.1
 have hka := hka p.2
 have hcase : keptAt D.secs p = none ∨ (1 ≤ p.2 ∧ p.2 ≤ (ws.length : Int)) := by
  by_cases h1 : 1 ≤ p.2 ∧ p.2 ≤ (ws.length : Int)
  ·exact .inr h1
  ·refine .inl ?_
   rw [hka]
   split
   ·exact List.getElem?_eq_none (by omega)
   ·rfl
 refine wpI_regionK [] #[false, false, false, false, false, false, false, false] rfl M (by kernel_rfl) (by kernel_rfl) (by rintro _ _ ⟨⟨_, h⟩, -⟩; cases h) ?_; clear M; intro w6 M
 refine k_read 0 S rfl (fun w hW => have M := M.grow hW; y_load S (by kernel_rfl) rfl ((hC _ _ _ hI ((M.drop 0).drop 0)).dp.cells 0)) ?_; clear S a; intro a S
 refine k_pure 1 S rfl (fun w => y_nilCheck S rfl) ?_; clear S a; intro a S
 refine k_pure 2 S rfl (fun w => y_fieldAddr (k := 2176) S (by kernel_rfl) rfl) ?_; clear S a; intro a S
 refine k_read 3 S rfl (fun w hW => have M := M.grow hW; y_load S (by kernel_rfl) rfl ((by obtain ⟨dur, hd, hB⟩ := (hC _ _ _ hI ((M.drop 0).drop 0)).disk; exact (hB.cells 2176).trans (dcells_map hd _ _)))) ?_; clear S a; intro a S
 refine k_pure 4 S rfl (fun w => y_fieldAddr (k := 0) S (by kernel_rfl) rfl) ?_; clear S a; intro a S
 refine k_read 5 S rfl (fun w hW => have M := M.grow hW; y_load S (by kernel_rfl) rfl (M.cell 0 rfl rfl)) ?_; clear S a; intro a S
 refine k_read 6 S rfl (fun w hW => have M := M.grow hW; y_lookupB S ((hC _ _ _ hI ((M.drop 0).drop 0)).map) (keyJ) (O.good) Tryz.underlying83 (zero_sl) rfl rfl) ?_; clear S a; intro a S
 simp only [Bool.false_eq_true, if_false, hval] at S
 refine k_pure 7 S rfl (fun w => y_assign S rfl) ?_; clear S a; intro a S
 refine k_end (by kernel_rfl) ?_
 refine then_normal (wpIn_seq ?_)
 refine wpIn_seq ?_
 refine wpI_region (by kernel_rfl) (by rintro _ _ ⟨⟨_, h⟩, -⟩; cases h) ?_
 refine qR [2, 1, 1, 1] S M ?_; clear S a; intro a S
 refine st_if (t := 37) S rfl ?_ ?_
 ·clear S; intro h37 S
  refine qG [0, 0, 0, 0, 0, 1] S ?_; clear S a; intro a S
  replace S := S.keep [0, 1, 2, 4, 8, 9, 10, 11, 6, 23, 7, 43]
  refine nxC (stI_condT S rfl ?_)
  refine wpIn_exit ?_
  refine then_exit (block_hit (then_normal (wpI_region (by kernel_rfl) (by rintro _ _ ⟨⟨_, h⟩, -⟩; cases h) ?_)))
  (first | refine qY S (y_addN S rfl rfl (by omega)) ?_ | refine qY S (y_int S rfl rfl rfl) ?_); clear S a; intro a S
  refine qG [1] S ?_; clear S a; intro a S
  refine nxC ?_
  skip
  replace M := M.drop 0
  simp only [List.eraseIdx_cons_succ, List.eraseIdx_cons_zero] at M
  first
   | (have hI2 : I (pre ++ [(kn, r)]) Hs2 := by
       rcases hb with ⟨-, h⟩ | ⟨rfl, -⟩
       ·exact h
       ·cases h54
      exact ⟨plan.length - (i + 1), by omega, i + 1, _, _, Hs2, by omega, rfl, hI2, by rw [← hpre, hkn]; simp, S.sub _ rfl, M⟩)
   | (suffices hno : keptAt D.secs p = none by
       rw [hno] at hpre
       exact ⟨plan.length - (i + 1), by omega, i + 1, _, _, Hs, by omega, rfl, hI, by rw [← hpre, hkn]; simp, S.sub _ rfl, M⟩
      rcases hcase with hno | hbad
      ·exact hno
      ·omega)
   | (rw [if_neg (fun hin => by first | (simp at h18; omega) | (rw [hkn] at hin; simp at h23; exact hin.2 h23))] at hpre
      exact ⟨plan.length - (i + 1), by omega, i + 1, told, pre, Hs, by omega, rfl, hI, hpre, S.sub _ rfl, M⟩)
 clear S; intro h37 S
 refine qR [2, 1, 1] S M ?_; clear S a; intro a S
 refine qY S (y_lenR (E := 101) S rfl (hRd _ (hC _ _ _ hI ((M.drop 0).drop 0))) (by kernel_rfl)) ?_; clear S a; intro a S
 refine qG [1, 1] S ?_; clear S a; intro a S
 replace S := S.keep [0, 1, 2, 4, 8, 9, 10, 11, 6, 23, 7, 43]
 refine nxC (st_if (t := 43) S rfl ?_ ?_)
 ·clear S; intro h43 S
  refine stI_condT S rfl ?_
  refine wpIn_exit ?_
  refine then_exit (block_hit (then_normal (wpI_region (by kernel_rfl) (by rintro _ _ ⟨⟨_, h⟩, -⟩; cases h) ?_)))
  (first | refine qY S (y_addN S rfl rfl (by omega)) ?_ | refine qY S (y_int S rfl rfl rfl) ?_); clear S a; intro a S
  refine qG [1] S ?_; clear S a; intro a S
  refine nxC ?_
  skip
  replace M := M.drop 0
  simp only [List.eraseIdx_cons_succ, List.eraseIdx_cons_zero] at M
  first
   | (have hI2 : I (pre ++ [(kn, r)]) Hs2 := by
       rcases hb with ⟨-, h⟩ | ⟨rfl, -⟩
       ·exact h
       ·cases h54
      exact ⟨plan.length - (i + 1), by omega, i + 1, _, _, Hs2, by omega, rfl, hI2, by rw [← hpre, hkn]; simp, S.sub _ rfl, M⟩)
   | (suffices hno : keptAt D.secs p = none by
       rw [hno] at hpre
       exact ⟨plan.length - (i + 1), by omega, i + 1, _, _, Hs, by omega, rfl, hI, by rw [← hpre, hkn]; simp, S.sub _ rfl, M⟩
      rcases hcase with hno | hbad
      ·exact hno
      ·omega)
   | (rw [if_neg (fun hin => by first | (simp at h18; omega) | (rw [hkn] at hin; simp at h23; exact hin.2 h23))] at hpre
      exact ⟨plan.length - (i + 1), by omega, i + 1, told, pre, Hs, by omega, rfl, hI, hpre, S.sub _ rfl, M⟩)
 clear S; intro h43 S
 refine stI_condF S rfl ?_
 refine wpIn_skip ?_
 refine then_normal (wpIn_seq ?_)
 obtain ⟨r, hr⟩ : ∃ r, ws[(p.2 - 1).toNat]? = some r := ⟨_, List.getElem?_eq_getElem (by omega)⟩
 have hkr : keptAt D.secs p = some r := by rw [hka, if_pos (by omega), hr]
 have hwb := (hRd _ (hC _ _ _ hI ((M.drop 0).drop 0))).2.1
 unfold maxLen at hwb
 rw [hkr] at hpre
 refine wpI_tail 9 M (by kernel_rfl) (by kernel_rfl) (by kernel_rfl) (by rintro _ _ ⟨⟨_, h⟩, -⟩; cases h) ?_; simp only [List.take_succ_cons, List.take_zero, List.drop_succ_cons, List.drop_zero]
 refine qt_y S rfl rfl rfl (fun w M => y_move S rfl) ?_; clear S a; intro a S
 refine qt_y S rfl rfl rfl (fun w M => y_fieldAddr (k := 0) S (by kernel_rfl) rfl) ?_; clear S a; intro a S
 refine qt_y S rfl rfl rfl (fun w M => y_load S (by kernel_rfl) rfl (M.cell 0 rfl rfl)) ?_; clear S a; intro a S
 refine qt_y S rfl rfl rfl (fun w M => y_move S rfl) ?_; clear S a; intro a S
 refine qt_y S rfl rfl rfl (fun w M => y_fieldAddr (k := 1) S (by kernel_rfl) rfl) ?_; clear S a; intro a S
 refine qt_y S rfl rfl rfl (fun w M => y_load S (by kernel_rfl) rfl (M.cell 0 rfl rfl)) ?_; clear S a; intro a S
 (first | refine qt_y S rfl rfl rfl (fun w M => y_subN S rfl rfl (by omega)) ?_ | refine qt_y S rfl rfl rfl (fun w M => y_int S rfl rfl rfl) ?_); clear S a; intro a S
 rw [show p.2 - 1 = (((p.2 - 1).toNat : Nat) : Int) by omega] at S
 refine qt_y S rfl rfl rfl (fun w M => y_indexR (e := 101) (sz := 1) S (by kernel_rfl) rfl (hRd _ (hC _ _ _ hI ((M.drop 0).drop 0))) rfl (by first | omega | (simp; done) | (simp; omega))) ?_; clear S a; intro a S
 try simp only [Int.toNat_natCast, Nat.mul_one, Nat.zero_add] at S
 refine qt_y S rfl rfl rfl (fun w M => y_load S (by kernel_rfl) rfl ((hRd _ (hC _ _ _ hI ((M.drop 0).drop 0))).at_.one (p.2 - 1).toNat (by rw [List.getElem?_map, hr]; rfl))) ?_; clear S a; intro a S
 refine wpQuiet_nil ?_; clear M; intro w7 M
 rw [hkn] at S
 refine stI_yield (xs := [.tmp 46, .tmp 52]) S rfl (by kernel_rfl) rfl rfl (hY pre (kn, r) _ [_, _] Hs _ (by rw [← hpre, hkn]; simp; rfl) hI M) ?_
 rintro e w8 ⟨Hs2, M2, hh⟩
 obtain ⟨bb, rfl, hb⟩ : ∃ bb, e = .returned (.bool bb) ∧ ((bb = true ∧ I (pre ++ [(kn, r)]) Hs2) ∨ (bb = false ∧ X (pre ++ [(kn, r)]) Hs2)) := by
  rcases hh with ⟨rfl, h⟩ | ⟨rfl, h⟩
  ·exact ⟨true, rfl, .inl ⟨rfl, h⟩⟩
  ·exact ⟨false, rfl, .inr ⟨rfl, h⟩⟩
 refine ⟨_, rfl, ?_⟩; clear S M a; intro a S; have M := M2; clear M2
 simp only [List.cons_append, List.nil_append] at M
 refine list_in (by kernel_rfl) (by rintro _ _ ⟨⟨_, h⟩, -⟩; cases h) ?_
 refine qG [1] S ?_; clear S a; intro a S
 refine nxC (st_split (t := 54) S rfl ?_ ?_)
 ·clear S; intro h54 S
  refine stI_condT S rfl ?_
  refine wpIn_ret ?_
  refine block_ret (then_ret (then_ret (block_ret (end_none S rfl ?_))))
  refine ⟨⟨_, rfl⟩, Hs2, (M.drop 0).drop 0, .inr ⟨pre, (kn, r), _, by rw [← hpre, hkn]; simp; rfl, ?_⟩⟩
  rcases hb with ⟨rfl, -⟩ | ⟨-, h⟩
  ·cases h54
  ·exact h
 clear S; intro h54 S
 refine stI_condF S rfl ?_
 refine wpIn_skip ?_
 refine block_normal (then_normal (wpI_region (by kernel_rfl) (by rintro _ _ ⟨⟨_, h⟩, -⟩; cases h) ?_))
 (first | refine qY S (y_addN S rfl rfl (by omega)) ?_ | refine qY S (y_int S rfl rfl rfl) ?_); clear S a; intro a S
 refine qG [1] S ?_; clear S a; intro a S
 refine nxC ?_
 skip
 replace M := M.drop 0
 simp only [List.eraseIdx_cons_succ, List.eraseIdx_cons_zero] at M
 first
  | (have hI2 : I (pre ++ [(kn, r)]) Hs2 := by
      rcases hb with ⟨-, h⟩ | ⟨rfl, -⟩
      ·exact h
      ·cases h54
     exact ⟨plan.length - (i + 1), by omega, i + 1, _, _, Hs2, by omega, rfl, hI2, by rw [← hpre, hkn]; simp, S.sub _ rfl, M⟩)
  | (suffices hno : keptAt D.secs p = none by
      rw [hno] at hpre
      exact ⟨plan.length - (i + 1), by omega, i + 1, _, _, Hs, by omega, rfl, hI, by rw [← hpre, hkn]; simp, S.sub _ rfl, M⟩
     rcases hcase with hno | hbad
     ·exact hno
     ·omega)
  | (rw [if_neg (fun hin => by first | (simp at h18; omega) | (rw [hkn] at hin; simp at h23; exact hin.2 h23))] at hpre
     exact ⟨plan.length - (i + 1), by omega, i + 1, told, pre, Hs, by omega, rfl, hI, hpre, S.sub _ rfl, M⟩)
end Go.Proofs.YtndabhdepjnbcaaGreat

namespace Go.Proofs.YtndabhdepjnbcaaGreat
open Go.RowKit Go.Sort
theorem seatOf (s : Int) : 0 ≤ 2 + s % 24 ∧ 2 + s % 24 < 34 := by omega
set_option maxHeartbeats 1000000 in
theorem write1_any {wc w : World} {A E : List Ent} {b : Nat} {S0 : DS} (f : Fr) (ad : Option Addr) (c : Nat) (ld : List UInt8) (hE : DkE b S0 E) (M : Mem wc w (A ++ E)) (hv : RdH wc A (.slice ad ld.length c) ld) (hup : S0.down = false) (hm : f.may ld.length = true) (hw : ∀ k, (S0.cache k).length ≤ 1000000) :
 Calls Tryz.prog 104 #[.pointer (some ⟨b, 0, none⟩), .agg (f.cells (.slice ad ld.length c)).toArray] w fun e w' => e = .returned (.int .i64 0) ∧ ∃ E', DkE b (S0.write (2 + f.seq % 24) (bytesF f ld)) E' ∧ Mem wc w' (A ++ E') := by
 have hm2 := hm
 simp only [Fr.may, decide_eq_true_eq] at hm2
 have hA : ∀ W, Mem wc W (A ++ E) → Bs 0 W.heap.size W (.slice ad ld.length c) ld := fun W M => hv _ (M.sub (List.sublist_append_left _ _))
 have hpe : plE f.seq = 0 := by unfold plE; rw [if_pos hm2.1]
 have hpv : plV f.seq = 2 + f.seq % 24 := by unfold plV; rw [if_pos hm2.1]
 have h64 := bytesF_length hm
 refine calls_enter Tryz.func104 rfl 29 rfl rfl ?_; intro a S
 refine nxD (st_box S M rfl rfl rfl #[_, _, _, _, _, _] rfl ?_); clear S M a; intro a w1 bB S M hB
 refine qG [1] S ?_; clear S a; intro a S
 refine nxA (qR [1, 1] S M ?_); clear S a; intro a S
 refine qQ (xs := [.tmp 10]) S (qE Tryz.func108) rfl (PlaceJ f.seq _) M ?_; clear S M a; intro a w2 S hK M
 refine qG [1, 1, 1, 1, 1] S ?_; clear S a; intro a S
 refine nxC (wp_seq (wp_seq ?_))
 rw [hpe, hpv] at S
 refine wp_region_lit (qG [1, 1] S ?_); clear S a; intro a S
 refine nxC (st_if (t := 15) S rfl ?_ ?_)
 ·clear S; intro h15 S
  exact absurd rfl h15
 clear S; intro h15 S
 refine st_condF S rfl (wp_skip (nxE (qY S (y_loadAgg (cs := [_, _, _, _, _, _]) S (by kernel_rfl) rfl rfl (M.cellsAt (k := 6) 0 rfl rfl)) ?_))); clear S a; intro a S
 refine qC (xs := [.tmp 18]) S (qE Tryz.func144) rfl (bytes_any f (.slice ad ld.length c) ld _ (hA _ (M.drop 0))) ?_
 rintro _ w3 hP; obtain ⟨vb, lo, hi, rfl, hK, M2⟩ := bytes_uni M hP; refine ⟨_, rfl, ?_⟩; clear S M a; intro a S; have M := M2; clear M2
 rw [if_pos hm] at S
 rw [ifL_pos hm] at M
 refine qG [1, 1, 1, 1, 1] S ?_; clear S a; intro a S
 refine nxC (wp_seq (nxD (qG [1, 1] S ?_))); clear S a; intro a S
 replace S := S.keep [0, 1, 3, 4, 5, 15, 7, 6, 23]
 refine nxC (st_if (t := 23) S rfl ?_ ?_)
 ·clear S; intro h23 S
  exact absurd rfl h23
 clear S; intro h23 S
 refine st_condF S rfl (wp_skip (nxE (qG [1, 1, 1] S ?_))); clear S a; intro a S
 refine qC (xs := [.tmp 25, .tmp 26, .tmp 27]) S (qE Tryz.func83) rfl (write_any (A := _ :: _ :: A) (k := 2 + f.seq % 24) (bs := bytesF f ld) hE M (fun W M => M.readAll 0 rfl (by unfold maxLen; omega)) hup (seatOf _) (by omega) (hw _)) ?_
 rintro _ w4 ⟨rfl, E', hE', M2⟩; refine ⟨_, rfl, ?_⟩; clear S M a; intro a S; have M := M2; clear M2
 rw [pad64_eq h64] at hE'
 refine qG [1] S ?_; clear S a; intro a S
 refine nxC (wp_ret (end_one S rfl (res_tmp rfl) ?_))
 exact ⟨rfl, E', hE', (M.drop 0).drop 0⟩
def putF (S : DS) (fs : List (Fr × List UInt8)) : DS := fs.foldl (fun S x => S.write (2 + x.1.seq % 24) (bytesF x.1 x.2)) S
def appOk (t n : Int) (bs : List UInt8) : Prop := bs ≠ [] ∧ bs.length ≤ 90 ∧ (nOf bs.length : Int) ≤ 24 - (n - t)
instance (t n : Int) (bs : List UInt8) : Decidable (appOk t n bs) := by unfold appOk; infer_instance
def AppP (t n inc : Int) (bs : List UInt8) (S0 : DS) (n' er : Int) (S1 : DS) : Prop := (appOk t n bs ∧ n' = n + (nOf bs.length : Nat) ∧ er = 0 ∧ S1 = putF S0 (cutF bs n inc)) ∨ (¬ appOk t n bs ∧ n' = n ∧ er ≠ 0 ∧ S1 = S0)
theorem write_cache_le {S : DS} {k : Int} {bs : List UInt8} {m : Nat} (h : ∀ j, (S.cache j).length ≤ m) (j : Int) : ((S.write k bs).cache j).length ≤ m + 1 := by
 unfold DS.write
 simp only
 split
 ·rw [List.length_append]; have := h k; simp; omega
 ·have := h j; omega
theorem putF_cache_le (fs : List (Fr × List UInt8)) : ∀ {S : DS} {m : Nat}, (∀ j, (S.cache j).length ≤ m) → ∀ j, ((putF S fs).cache j).length ≤ m + fs.length := by
 induction fs with
 | nil => intro S m h j; exact h j
 | cons x fs ih =>
   intro S m h j
   have := ih (write_cache_le (k := 2 + x.1.seq % 24) (bs := bytesF x.1 x.2) h) j
   rw [List.length_cons]
   unfold putF at this ⊢
   rw [List.foldl_cons]; omega
theorem putF_down (fs : List (Fr × List UInt8)) : ∀ (S : DS), (putF S fs).down = S.down := by
 induction fs with
 | nil => intro S; rfl
 | cons x fs ih => intro S; exact ih _
theorem putF_snoc (S : DS) (fs : List (Fr × List UInt8)) (x : Fr × List UInt8) : putF S (fs ++ [x]) = (putF S fs).write (2 + x.1.seq % 24) (bytesF x.1 x.2) := by unfold putF; rw [List.foldl_append]; rfl
theorem nOf_le {n : Nat} (h : n ≤ 90) : nOf n ≤ 2 := by unfold nOf; omega
set_option maxHeartbeats 2000000 in
theorem append_any {wc w : World} {A E : List Ent} {b : Nat} {S0 : DS} (t n inc : Int) (v : Value) (bs : List UInt8) (hE : DkE b S0 E) (M : Mem wc w (A ++ E)) (hv : RdH wc A v bs) (hup : S0.down = false) (hl : mayL t n) (hn : n ≤ 2147483648) (hi : 0 ≤ inc ∧ inc ≤ 1048576) (hw : ∀ k, (S0.cache k).length ≤ 100000) :
 Calls Tryz.prog 55 #[.pointer (some ⟨b, 0, none⟩), .agg #[.int .i64 t, .int .i64 n], .int .i64 inc, v] w fun e w' => ∃ n' er S1, e = .returned (.tuple #[.agg #[.int .i64 t, .int .i64 n'], .int .i64 er]) ∧ AppP t n inc bs S0 n' er S1 ∧ ∃ E', DkE b S1 E' ∧ Mem wc w' (A ++ E') := by
 have hA : ∀ W, Mem wc W (A ++ E) → Bs 0 W.heap.size W v bs := fun W M => hv _ (M.sub (List.sublist_append_left _ _))
 have hl' := hl
 refine calls_enter Tryz.func55 rfl 63 rfl rfl ?_; intro a S
 refine nxD (st_box S M rfl rfl rfl #[_, _] rfl ?_); clear S M a; intro a w1 bL S M hB
 refine st_alloc S M rfl rfl #[.int .i64 0, .int .i64 0] (by kernel_rfl) ?_; clear S M a; intro a w2 bR S M hB
 refine qG [1] S ?_; clear S a; intro a S
 refine nxC (wp_seq (nxD (qG [1] S ?_))); clear S a; intro a S
 refine qY S (y_eqlPS (by kernel_rfl) S rfl) ?_; clear S a; intro a S
 refine nxC (st_condF S rfl (wp_skip (then_normal (wp_seq (nxD (qY S (y_loadAgg (cs := [_, _]) S (by kernel_rfl) rfl rfl (M.cellsAt (k := 2) 1 rfl rfl)) ?_)))))); clear S a; intro a S
 refine qQ (xs := [.tmp 20]) S (qE Tryz.func98) rfl (MayJ t n _) M ?_; clear S M a; intro a w3 S hK M
 refine qG [1] S ?_; clear S a; intro a S
 refine nxC (st_if (t := 22) S rfl ?_ ?_)
 ·clear S; intro h22 S
  exfalso; omega
 clear S; intro h22 S
 refine st_condF S rfl (wp_skip (nxE (qR [1, 2, 2, 1] S M ?_))); clear S a; intro a S
 refine qC (xs := [.tmp 25, .tmp 27, .tmp 28]) S (qE Tryz.func102) rfl (cut_any v bs n inc _ (hA _ ((M.drop 0).drop 0)) (by omega)) ?_
 rintro _ w4 ⟨vc, rfl, hK, cs, hF⟩; refine ⟨_, rfl, ?_⟩; clear S a; intro a S
 obtain ⟨lo, hi2, hlo, M2⟩ := M.pushFrs hK hF; clear M; have M := M2; clear M2
 refine qG [1, 1, 1, 1, 1] S ?_; clear S a; intro a S
 refine nxC (wp_seq (nxD (qG [1, 1] S ?_))); clear S a; intro a S
 refine nxC (st_split (t := 33) S rfl ?_ ?_)
 ·clear S; intro h33 S
  refine st_condT S rfl (nxD (qY S (y_loadAgg (cs := [_, _]) S (by kernel_rfl) rfl rfl (M.cellsAt (k := 2) 2 rfl rfl)) ?_)); clear S a; intro a S
  refine qG [1] S ?_; clear S a; intro a S
  refine qS (sz := 2) (us := [_, _]) S M 1 ?_; clear M; intro w5 M
  refine qG [1] S ?_; clear S a; intro a S
  replace S := S.keep [0, 1, 2, 3, 5, 8, 18, 22, 10, 11, 33, 9]
  refine nxC (wp_ret (then_ret (end_two S rfl (res_agg (cs := [_, _]) (by kernel_rfl) rfl rfl (M.cellsAt (k := 2) 1 rfl rfl)) (res_tmp rfl) ?_)))
  refine ⟨n, _, S0, rfl, .inr ⟨?_, rfl, ?_, rfl⟩, E, hE, ((M.drop 0).drop 0).drop 0⟩
  ·intro hok
   have hc : cutOk bs n inc := ⟨hok.1, by omega, hi, hok.2.1, by have := nOf_le hok.2.1; omega⟩
   rw [cutE_zero.2 hc] at h33; simp at h33
  ·intro h0; rw [h0] at h33; simp at h33
 clear S; intro h33 S
 refine st_condF S rfl (wp_skip (then_normal (wp_seq ?_)))
 have hc : cutOk bs n inc := by
  rw [← cutE_zero]; simpa using h33
 have hcl : (cutF bs n inc).length = nOf bs.length := by unfold cutF; simp
 have hcR : cutR bs n inc = cutF bs n inc := by unfold cutR; rw [if_pos hc]
 rw [hcR] at M
 have hn2 := nOf_le hc.2.2.2.1
 have hF0 := (M.own 0 rfl)
 obtain ⟨va, vcp, rfl, -, -⟩ := (hF0.1).form
 rw [hcl] at S M
 refine wp_region_lit (qY S (y_loadAgg (cs := [_, _]) S (by kernel_rfl) rfl rfl (M.cellsAt (k := 2) 2 rfl rfl)) ?_); clear S a; intro a S
 refine qG [1] S ?_; clear S a; intro a S
 refine qY S (y_lenS (E := 191) S rfl (by kernel_rfl)) ?_; clear S a; intro a S
 refine qC (xs := [.tmp 37, .tmp 39]) S (qE Tryz.func103) rfl (TakeJ t n (nOf bs.length) _ hl (by omega)) ?_
 rintro _ w6 ⟨er, x, y, tv, rfl, hK2, hT⟩; refine ⟨_, rfl, ?_⟩; clear S a; intro a S; replace M := M.grow hK2
 refine qG [1, 1, 1, 1] S ?_; clear S a; intro a S
 refine st_alloc S M rfl rfl #[.int .i64 0, .int .i64 0] (by kernel_rfl) ?_; clear S M a; intro a w7 bT S M hB
 refine qS (sz := 2) (us := [_, _]) S M 0 ?_; clear M; intro w8 M
 refine qG [1, 1] S ?_; clear S a; intro a S
 replace S := S.keep [0, 1, 2, 3, 5, 8, 9, 18, 22, 10, 33, 12, 11]
 refine nxC (wp_seq (nxD (qG [1, 1] S ?_))); clear S a; intro a S
 refine nxC (st_if (t := 45) S rfl ?_ ?_)
 ·clear S; intro h45 S
  refine st_condT S rfl (nxD (qY S (y_loadAgg (cs := [_, _]) S (by kernel_rfl) rfl rfl (M.cellsAt (k := 2) 3 rfl rfl)) ?_)); clear S a; intro a S
  refine qG [1] S ?_; clear S a; intro a S
  refine qS (sz := 2) (us := [_, _]) S M 2 ?_; clear M; intro w9 M
  refine qG [1] S ?_; clear S a; intro a S
  refine nxC (wp_ret (then_ret (end_two S rfl (res_agg (cs := [_, _]) (by kernel_rfl) rfl rfl (M.cellsAt (k := 2) 2 rfl rfl)) (res_tmp rfl) ?_)))
  refine ⟨n, _, S0, rfl, .inr ⟨?_, rfl, ?_, rfl⟩, E, hE, (((M.drop 0).drop 0).drop 0).drop 0⟩
  ·intro hok
   rcases hT with ⟨rfl, -⟩ | ⟨-, hno⟩
   ·omega
   ·exact hno ⟨hok.2.2, by omega⟩
  ·intro h0; omega
 clear S; intro h45 S
 refine st_condF S rfl (wp_skip (then_normal (wp_seq (wp_seq ?_))))
 obtain ⟨rfl, hfit, rfl, rfl⟩ : er = 0 ∧ fitsL t n (nOf bs.length : Nat) ∧ t = x ∧ n + (nOf bs.length : Nat) = y := by
  rcases hT with h | ⟨h, -⟩
  ·exact h
  ·omega
 refine wp_region_lit (qG [1] S ?_); clear S a; intro a S
 refine qY S (y_lenS (E := 191) S rfl (by kernel_rfl)) ?_; clear S a; intro a S
 refine qG [1] S ?_; clear S a; intro a S
 refine nxC (wp_block (wp_loop_g (fun m a w' => ∃ (i : Nat) (E1 : List Ent), i ≤ nOf bs.length ∧ m = nOf bs.length - i ∧ DkE b (putF S0 ((cutF bs n inc).take i)) E1 ∧ Sees 63 a [(0, .pointer (some ⟨b, 0, none⟩)), (5, .pointer (some ⟨bL, 0, none⟩)), (8, .pointer (some ⟨bR, 0, none⟩)), (12, .pointer (some ⟨bT, 0, none⟩)), (48, .slice va (nOf bs.length) vcp), (49, .int .i64 (nOf bs.length : Int)), (50, .int .i64 (i : Int))] ∧ Mem wc w' ([.blk bT #[.int .i64 t, .int .i64 (n + (nOf bs.length : Nat))] 51, .own lo hi2 (fun w => FrsC cs lo hi2 w (.slice va (nOf bs.length) vcp) (cutF bs n inc)), .blk bR #[.int .i64 0, .int .i64 0] 51, .blk bL #[.int .i64 t, .int .i64 n] 51] ++ A ++ E1)) (nOf bs.length) ?_ ?_))
 ·skip
  exact ⟨0, E, Nat.zero_le _, rfl, hE, S.sub _ rfl, M⟩
 clear S M a; intro m a wl
 rintro ⟨i, E1, hi', rfl, hE1, S, M⟩
 replace M := M
 simp only [List.cons_append, List.nil_append] at M
 refine nxD (qG [1] S ?_); clear S a; intro a S
 refine nxC (wp_seq (st_fi (t := 51) S rfl ?_ ?_))
 ·clear S; intro h51 S
  refine st_condF S rfl (wp_exit (then_exit (then_exit (block_hit (nxE (qY S (y_loadAgg (cs := [_, _]) S (by kernel_rfl) rfl rfl (M.cellsAt (k := 2) 0 rfl rfl)) ?_)))))); clear S a; intro a S
  refine qS (sz := 2) (us := [_, _]) S M 2 ?_; clear M; intro w13 M
  refine qG [1] S ?_; clear S a; intro a S
  refine nxC (wp_ret (end_two S rfl (res_agg (cs := [_, _]) (by kernel_rfl) rfl rfl (M.cellsAt (k := 2) 2 rfl rfl)) (res_tmp rfl) ?_))
  obtain rfl : i = nOf bs.length := by omega
  rw [List.take_of_length_le (by omega)] at hE1
  exact ⟨_, 0, _, rfl, .inl ⟨⟨hc.1, hc.2.2.2.1, hfit.1⟩, rfl, rfl, rfl⟩, E1, hE1, (((M.drop 0).drop 0).drop 0).drop 0⟩
 clear S; intro h51 S
 refine st_condT S rfl (wp_skip (then_normal (wp_seq (wp_block (wp_seq ?_)))))
 have hlt : i < nOf bs.length := by omega
 have hF1 := M.own 1 rfl
 obtain ⟨f, ld, hfi⟩ : ∃ f ld, (cutF bs n inc)[i]? = some (f, ld) := ⟨_, _, List.getElem?_eq_getElem (by omega)⟩
 obtain ⟨lv, hrow, hlv0⟩ := hF1.2 i f ld hfi
 have hmay : f.may ld.length = true := by
  have e := cutR_get hc hlt
  rw [hcR, hfi] at e
  have := frOf_may hc hlt
  rw [← Option.some.inj e] at this; exact this
 obtain ⟨la, lc, rfl, -, -⟩ := hlv0.form
 refine wp_region_lit (qY S (y_indexR (e := 191) (sz := 6) S (by kernel_rfl) rfl ((by have h := (M.own 1 rfl).1.wide (Nat.zero_le _) (M.fits _ (List.mem_of_getElem? (show _[1]? = _ from rfl))).2; rw [hcl] at h; exact h)) rfl (by first | omega | (simp; done) | (simp; omega))) ?_); clear S a; intro a S
 try simp only [Int.toNat_natCast, Nat.mul_one, Nat.zero_add] at S
 refine qY S (y_loadAgg S (by kernel_rfl) rfl rfl (((M.own 1 rfl).row hfi hrow).1)) ?_; clear S a; intro a S
 refine st_alloc S M rfl rfl #[.int .i64 0, .int .i64 0, .int .i64 0, .int .i64 0, .int .u32 0, .slice none 0 0] (by kernel_rfl) ?_; clear S M a; intro a w10 bX S M hB
 refine qS (sz := 6) (us := [_, _, _, _, _, _]) S M 0 ?_; clear M; intro w11 M
 refine nxA (qG [1] S ?_); clear S a; intro a S
 refine qY S (y_loadAgg (cs := [_, _, _, _, _, _]) S (by kernel_rfl) rfl rfl (M.cellsAt (k := 6) 0 rfl rfl)) ?_; clear S a; intro a S
 refine qC (xs := [.tmp 54, .tmp 55]) S (qE Tryz.func104) rfl (write1_any (A := _ :: _ :: _ :: _ :: _ :: A) f la lc ld hE1 M (fun W M => (((M.own 2 rfl).row hfi hrow).2).wide (Nat.zero_le _) (M.fits _ (List.mem_of_getElem? (show _[2]? = _ from rfl))).2) (by rw [putF_down]; exact hup) hmay (fun k => by have := putF_cache_le ((cutF bs n inc).take i) hw k; rw [List.length_take] at this; omega)) ?_
 rintro _ w12 ⟨rfl, E2, hE2, M2⟩; refine ⟨_, rfl, ?_⟩; clear S M a; intro a S; have M := M2; clear M2
 simp only [List.cons_append, List.nil_append] at M
 refine qG [1] S ?_; clear S a; intro a S
 refine nxA (qG [1, 1] S ?_); clear S a; intro a S
 refine nxC (st_if (t := 58) S rfl ?_ ?_)
 ·clear S; intro h58 S
  exact absurd rfl h58
 clear S; intro h58 S
 refine st_condF S rfl (wp_skip (block_normal (nxF ?_)))
 (first | refine qY S (y_addN S rfl rfl (by omega)) ?_ | refine qY S (y_int S rfl rfl rfl) ?_); clear S a; intro a S
 refine qG [1] S ?_; clear S a; intro a S
 refine nxC ?_
 skip
 replace M := M.drop 0
 simp only [List.eraseIdx_cons_succ, List.eraseIdx_cons_zero] at M
 refine ⟨nOf bs.length - (i + 1), by omega, i + 1, E2, by omega, rfl, ?_, S.sub _ rfl, M⟩
 obtain ⟨hlt2, he⟩ := List.getElem?_eq_some_iff.1 hfi
 rw [List.take_succ_eq_append_getElem hlt2, he, putF_snoc]
 exact hE2
end Go.Proofs.YtndabhdepjnbcaaGreat

namespace Go.Proofs.YtndabhdepjnbcaaGreat
open Go.RowKit Go.Sort
abbrev secB (x : FrB) : List UInt8 := bytesF x.1 x.2
def zero64 : List UInt8 := List.replicate 64 0
theorem frIn_zero : (frIn (zero64.take 60)).may (ldIn (zero64.take 60)).length = false := by kernel_rfl
theorem readF_zero : readF zero64 = none := by
 unfold readF
 rw [if_neg]
 rintro ⟨_, _, _, h, _⟩
 rw [frIn_zero] at h; cases h
def framesL (inc : Int) : Int → List (List UInt8) → List FrB
 | _, [] => []
 | q, r :: rs => cutF r q inc ++ framesL inc (q + (nOf r.length : Nat)) rs
def beginsL : Int → List (List UInt8) → List (Int × List UInt8)
 | _, [] => []
 | q, r :: rs => (q, r) :: beginsL (q + (nOf r.length : Nat)) rs
theorem cutF_length (r : List UInt8) (q inc : Int) : (cutF r q inc).length = nOf r.length := by unfold cutF; simp
theorem framesL_append (inc : Int) : ∀ (q : Int) (a b : List (List UInt8)), framesL inc q (a ++ b) = framesL inc q a ++ framesL inc (q + ((framesL inc q a).length : Nat)) b
 | q, [], b => by simp [framesL]
 | q, r :: a, b => by
   simp only [List.cons_append, framesL, framesL_append inc _ a b, List.append_assoc, List.length_append, cutF_length]
   congr 3
   omega
theorem beginsL_append (inc : Int) : ∀ (q : Int) (a b : List (List UInt8)), beginsL q (a ++ b) = beginsL q a ++ beginsL (q + ((framesL inc q a).length : Nat)) b
 | q, [], b => by simp [framesL, beginsL]
 | q, r :: a, b => by
   simp only [List.cons_append, framesL, beginsL, beginsL_append inc _ a b, List.length_append, cutF_length]
   congr 3
   omega
theorem beginsL_snd : ∀ (q : Int) (rs : List (List UInt8)), (beginsL q rs).map (·.2) = rs
 | _, [] => rfl
 | q, r :: rs => by simp [beginsL, beginsL_snd _ rs]
theorem nOf_pos {n : Nat} (h : 0 < n) : 1 ≤ nOf n := by unfold nOf; omega
theorem cutOk_n {r : List UInt8} {q inc : Int} (h : cutOk r q inc) : nOf r.length = 1 ∨ nOf r.length = 2 := by
 have h1 := nOf_pos (List.length_pos_iff.2 h.1)
 have h2 := nOf_le h.2.2.2.1
 omega
theorem frOf_read {r : List UInt8} {q inc : Int} (h : cutOk r q inc) {i : Nat} (hi : i < nOf r.length) : readF (secB (frOf r q inc i)) = some (frOf r q inc i) := read_bytes (frOf_may h hi)
theorem goodP_iff {s : Sc} {f : Fr} : goodP s f = true ↔ f.seq = s.seq ∧ s.inc ≤ f.inc ∧ (match s.begun with
 | [] => f.part = 0
 | g :: _ => f.part = (s.begun.length : Int) ∧ f.of = g.1.of ∧ f.mark = g.1.mark ∧ f.inc = g.1.inc) := by
 unfold goodP
 cases s.begun with
 | nil => simp [and_assoc]
 | cons g t => simp [and_assoc]
theorem scan_one {r : List UInt8} {q inc inc' nx : Int} {l : List (Int × List UInt8)} (h : cutOk r q inc') (hi : inc ≤ inc') (rest : List (List UInt8)) :
 scanP ⟨q, inc, [], l, nx⟩ ((cutF r q inc').map secB ++ rest) = scanP ⟨q + (nOf r.length : Nat), inc', [], l ++ [(q, r)], q + (nOf r.length : Nat)⟩ rest := by
 have hcR : cutR r q inc' = cutF r q inc' := by unfold cutR; rw [if_pos h]
 obtain ⟨hj, ho⟩ := join_cut h
 rw [hcR] at hj ho
 have h0 := frOf_read h (i := 0) (by have := cutOk_n h; omega)
 rcases cutOk_n h with e | e
 ·have hc : cutF r q inc' = [frOf r q inc' 0] := by unfold cutF; rw [e]; rfl
  have hof : (frOf r q inc' 0).1.of = 1 := by simp [frOf, e]
  rw [hc] at hj ho ⊢
  rw [List.map_cons, List.map_nil, List.singleton_append, scanP_cons]
  have hst : stepP ⟨q, inc, [], l, nx⟩ (secB (frOf r q inc' 0)) = (⟨q + (nOf r.length : Nat), inc', [], l ++ [(q, r)], q + (nOf r.length : Nat)⟩, true) := by
   unfold stepP
   rw [h0]
   have hg : goodP ⟨q, inc, [], l, nx⟩ (frOf r q inc' 0).1 = true := goodP_iff.2 ⟨by simp [frOf], by simp [frOf]; exact hi, by simp [frOf]⟩
   simp only [hg, if_true]
   unfold takeP
   rw [if_neg (by simp [hof]), if_pos (by simpa using hj)]
   simp only [List.nil_append, ho, e]
   simp [frOf]
  rw [hst]; rfl
 ·have hc : cutF r q inc' = [frOf r q inc' 0, frOf r q inc' 1] := by unfold cutF; rw [e]; rfl
  have hof : (frOf r q inc' 0).1.of = 2 := by simp [frOf, e]
  have hof1 : (frOf r q inc' 1).1.of = 2 := by simp [frOf, e]
  have h1 := frOf_read h (i := 1) (by omega)
  rw [hc] at hj ho ⊢
  simp only [List.map_cons, List.map_nil, List.cons_append, List.nil_append]
  rw [scanP_cons]
  have hst : stepP ⟨q, inc, [], l, nx⟩ (secB (frOf r q inc' 0)) = (⟨q + 1, inc', [frOf r q inc' 0], l, nx⟩, true) := by
   unfold stepP
   rw [h0]
   have hg : goodP ⟨q, inc, [], l, nx⟩ (frOf r q inc' 0).1 = true := goodP_iff.2 ⟨by simp [frOf], by simp [frOf]; exact hi, by simp [frOf]⟩
   simp only [hg, if_true]
   unfold takeP
   rw [if_pos (by simp [hof])]
   simp [frOf]
  have hst2 : stepP ⟨q + 1, inc', [frOf r q inc' 0], l, nx⟩ (secB (frOf r q inc' 1)) = (⟨q + (nOf r.length : Nat), inc', [], l ++ [(q, r)], q + (nOf r.length : Nat)⟩, true) := by
   unfold stepP
   rw [h1]
   have hg : goodP ⟨q + 1, inc', [frOf r q inc' 0], l, nx⟩ (frOf r q inc' 1).1 = true := goodP_iff.2 ⟨by simp [frOf], by simp [frOf], by simp [frOf]⟩
   simp only [hg, if_true]
   unfold takeP
   rw [if_neg (by simp [hof1]), if_pos (by simpa using hj)]
   simp only [List.cons_append, List.nil_append, ho, e]
   simp [frOf]
   omega
  rw [hst]
  simp only [if_true]
  rw [scanP_cons, hst2]; rfl
def Ends (q inc : Int) (rest : List (List UInt8)) : Prop := ∀ x t, rest = x :: t → ∀ f ld, readF x = some (f, ld) → f.seq = q → inc ≤ f.inc → f.part = 0 →
 (1 : Int) < f.of ∧ ∀ y t', t = y :: t' → ∀ g le, readF y = some (g, le) → g.seq = q + 1 → g.part = 1 → g.inc = f.inc → False
theorem scan_end {q inc nx : Int} {l : List (Int × List UInt8)} {rest : List (List UInt8)} (h : Ends q inc rest) : (scanP ⟨q, inc, [], l, nx⟩ rest).l = l ∧ (scanP ⟨q, inc, [], l, nx⟩ rest).next = nx := by
 cases rest with
 | nil => exact ⟨rfl, rfl⟩
 | cons x t =>
   by_cases hst : (stepP ⟨q, inc, [], l, nx⟩ x).2 = true
   ·rw [scanP_cons, if_pos hst]
    unfold stepP at hst ⊢
    cases hx : readF x with
    | none => rw [hx] at hst; cases hst
    | some p =>
      obtain ⟨f, ld⟩ := p
      rw [hx] at hst
      simp only at hst ⊢
      by_cases hg : goodP ⟨q, inc, [], l, nx⟩ f = true
      ·obtain ⟨g1, g2, g3⟩ := goodP_iff.1 hg
       obtain ⟨hof, h2⟩ := h x t rfl f ld hx g1 g2 g3
       have ht : takeP ⟨q, inc, [], l, nx⟩ (f, ld) = (⟨q + 1, f.inc, [(f, ld)], l, nx⟩, true) := by
        unfold takeP
        exact if_pos (by simpa using hof)
       rw [if_pos hg, ht]
       cases t with
       | nil => exact ⟨rfl, rfl⟩
       | cons y t' =>
         have hst2 : stepP ⟨q + 1, f.inc, [(f, ld)], l, nx⟩ y = (⟨q + 1, f.inc, [(f, ld)], l, nx⟩, false) := by
          unfold stepP
          cases hy : readF y with
          | none => rfl
          | some p2 =>
            obtain ⟨g, le⟩ := p2
            refine if_neg fun hg2 => ?_
            obtain ⟨k1, k2, k3⟩ := goodP_iff.1 hg2
            exact h2 y t' rfl g le hy k1 (by simpa using k3.1) k3.2.2.2
         rw [scanP_cons, hst2]
         exact ⟨rfl, rfl⟩
      ·rw [if_neg hg] at hst; cases hst
   ·rw [scanP_cons, if_neg hst]
    unfold stepP at hst ⊢
    cases hx : readF x with
    | none => exact ⟨rfl, rfl⟩
    | some p =>
      obtain ⟨f, ld⟩ := p
      rw [hx] at hst
      simp only at hst ⊢
      by_cases hg : goodP ⟨q, inc, [], l, nx⟩ f = true
      ·obtain ⟨g1, g2, g3⟩ := goodP_iff.1 hg
       obtain ⟨hof, h2⟩ := h x t rfl f ld hx g1 g2 g3
       have ht : takeP ⟨q, inc, [], l, nx⟩ (f, ld) = (⟨q + 1, f.inc, [(f, ld)], l, nx⟩, true) := by
        unfold takeP
        exact if_pos (by simpa using hof)
       rw [if_pos hg, ht] at hst
       exact absurd rfl hst
      ·rw [if_neg hg]; exact ⟨rfl, rfl⟩
end Go.Proofs.YtndabhdepjnbcaaGreat

namespace Go.Proofs.YtndabhdepjnbcaaGreat
open Go.RowKit Go.Sort
def keptB (c : Int → List (List UInt8)) : List (Int × Int) → List Int → List (Nat × List UInt8)
 | [], _ => []
 | p :: l, told => if (0 ≤ p.1 ∧ p.1 < 34) ∧ p.1 ∉ told then (match if 1 ≤ p.2 then (c p.1)[(p.2 - 1).toNat]? else none with
    | some r => [(p.1.toNat, r)]
    | none => []) ++ keptB c l (p.1 :: told) else keptB c l told
def durK (dur : Nat → List UInt8) (l : List (Nat × List UInt8)) : Nat → List UInt8 := l.foldl (fun d x j => if j = x.1 then x.2 else d j) dur
def DS.crash (S : DS) (plan : List (Int × Int)) : DS := ⟨durK S.dur (keptB S.cache plan []), fun _ => [], true⟩
theorem kept_plain (secs : List Sec) : ∀ (plan : List (Int × Int)) (told : List Int), (keptP secs plan told).map (fun x => (x.1, x.2.bs)) = keptB (cacheOf secs) plan told
 | [], _ => rfl
 | p :: l, told => by
   unfold keptP keptB
   split
   ·rw [List.map_append, kept_plain secs l]
    congr 1
    unfold keptAt cacheOf
    cases hs : secOf secs p.1 with
    | none => simp
    | some s =>
      simp only
      by_cases h1 : 1 ≤ p.2
      ·rw [if_pos h1, if_pos h1, List.getElem?_map]
       cases s.ws[(p.2 - 1).toNat]? <;> rfl
      ·rw [if_neg h1, if_neg h1]; rfl
   ·exact kept_plain secs l told
theorem keptP_mem {secs : List Sec} : ∀ {plan : List (Int × Int)} {told : List Int} {x : Nat × RB}, x ∈ keptP secs plan told → x.1 < 34 ∧ ∃ s ∈ secs, x.2 ∈ s.ws
 | [], _, x, h => by cases h
 | p :: l, told, x, h => by
   unfold keptP at h
   split at h
   ·rename_i hc
    rcases List.mem_append.1 h with h | h
    ·unfold keptAt at h
     cases hs : secOf secs p.1 with
     | none => rw [hs] at h; cases h
     | some s =>
       rw [hs] at h
       obtain ⟨P, Q, e, -⟩ := secOf_some hs
       simp only at h
       split at h
       ·rename_i r hr
        rw [List.mem_singleton] at h; subst h
        refine ⟨by have := hc.1; simp only; omega, s, by rw [e]; simp, ?_⟩
        split at hr
        ·exact List.mem_of_getElem? hr
        ·cases hr
       ·cases h
    ·exact keptP_mem h
   ·exact keptP_mem h
theorem kept_any (b : Nat) (pa : Option Addr) (pn pc : Nat) (w : World) : Calls Tryz.prog 36 #[.pointer (some ⟨b, 0, none⟩), .slice pa pn pc] w fun e w' => ∃ bp bd, e = .returned (.func (.func 60) #[] #[.pointer (some ⟨bp, 0, none⟩), .pointer (some ⟨bd, 0, none⟩)]) ∧ Mem w w' [.blk bp #[.slice pa pn pc] 42, .blk bd #[.pointer (some ⟨b, 0, none⟩)] 38] := by
 have M := Mem.start w
 refine calls_enter Tryz.func36 rfl 6 rfl rfl ?_; intro a S
 refine nxD (st_box S M rfl rfl rfl #[_] rfl ?_); clear S M a; intro a w1 bD S M hB
 refine st_box S M rfl rfl rfl #[_] rfl ?_; clear S M a; intro a w2 bP S M hB
 refine qG [1] S ?_; clear S a; intro a S
 refine nxA (qY S (y_makeFunc (fs := []) (cs := [.tmp 3, .tmp 2]) S rfl rfl) ?_); clear S a; intro a S
 refine qG [1] S ?_; clear S a; intro a S
 refine nxC (wp_ret (end_one S rfl (res_tmp rfl) ?_))
 exact ⟨bP, bD, rfl, M⟩
theorem durK_snoc (dur : Nat → List UInt8) (l : List (Nat × List UInt8)) (x : Nat × List UInt8) (j : Nat) : durK dur (l ++ [x]) j = if j = x.1 then x.2 else durK dur l j := by unfold durK; rw [List.foldl_append]; rfl
set_option maxHeartbeats 2000000 in
theorem crash_any {wc w : World} {A E : List Ent} {b : Nat} {S0 : DS} (pa : Option Addr) (pc : Nat) (plan : List (Int × Int)) (hE : DkE b S0 E) (M : Mem wc w (A ++ E)) (hp : ∀ W, Mem wc W A → Rd 0 W.heap.size W 2 (.slice pa plan.length pc) plan.length (kcells plan)) (hup : S0.down = false) (hw : ∀ k, (S0.cache k).length ≤ 1000000) :
 Calls Tryz.prog 21 #[.pointer (some ⟨b, 0, none⟩), .slice pa plan.length pc] w fun e w' => e = .returned (.int .i64 0) ∧ ∃ E', DkE b (S0.crash plan) E' ∧ Mem wc w' (A ++ E') := by
 obtain ⟨D, rfl, O, rfl, rfl⟩ := hE
 replace M := M.perm List.perm_append_comm
 have hd : D.down = false := hup
 have hsl : ∀ s ∈ D.secs, s.ws.length ≤ 1000000 := fun s hs => by
  have h1 := hw s.key
  obtain ⟨P, Q, e⟩ := List.append_of_mem hs
  have h2 := secOf_mid (by rw [← e]; exact O.nodup) (P := P) (Q := Q) (s := s) s.key
  rw [if_pos rfl, ← e] at h2
  unfold Dk.st cacheOf at h1
  simp only [h2, List.length_map] at h1
  exact h1
 replace M : Mem wc w (.blk D.b (dcells D.dur D.m D.down).toArray 87 :: mapX D.m D.ml D.cl :: (secsE D.secs ++ A)) := M
 refine calls_enterM Tryz.func21 rfl 33 rfl rfl ?_; intro a S
 refine wp_seq ?_
 skip
 refine wp_region_lit (st_box S M rfl rfl rfl #[_] rfl ?_); clear S M a; intro a w1 bB S M hB
 refine qG [1] S ?_; clear S a; intro a S
 refine nxC (wp_seq (nxD (qR [1] S M ?_))); clear S a; intro a S
 refine qY S (y_eqlPS (by kernel_rfl) S rfl) ?_; clear S a; intro a S
 refine nxC (st_condF S rfl (wp_skip (then_normal (wp_seq (nxD (qR [1] S M ?_)))))); clear S a; intro a S
 skip
 refine qY S (y_nilCheck S rfl) ?_; clear S a; intro a S
 refine qG [2178] S ?_; clear S a; intro a S
 refine qY S (y_load S (by kernel_rfl) rfl (M.cell 1 rfl ((dcells_down O.dur _ _).trans (by rw [hd])))) ?_; clear S a; intro a S
 refine nxC (st_if (t := 12) S rfl ?_ ?_)
 ·clear S; intro h12 S
  cases h12
 clear S; intro h12 S
 refine st_condF S rfl (wp_skip (then_normal (wp_seq (nxD (qR [1, 1] S M ?_))))); clear S a; intro a S
 refine qC (xs := [.tmp 13, .tmp 14]) S (qE Tryz.func36) rfl (kept_any D.b pa plan.length pc _) ?_
 rintro _ w2 ⟨bp, bd, rfl, M1⟩; refine ⟨_, rfl, ?_⟩; clear S a; intro a S; replace M := M.join M1; clear M1
 simp only [List.cons_append, List.nil_append] at M
 refine nxC (wp_block (wp_rangeB (encs := encK) (xs := keptP D.secs plan []) S M rfl (enters_of Tryz.func60 (by decide) rfl) (kept1_gen O bp bd pa pc plan) (fun _ => rfl) (by kernel_rfl) (fun pre Hs => ∃ dur, dur.length = 2176 ∧ (∀ j, durAt dur j = durK (durAt D.dur) (pre.map fun x => (x.1, x.2.bs)) j) ∧ Hs = .blk bp #[.slice pa plan.length pc] 42 :: .blk bd #[.pointer (some ⟨D.b, 0, none⟩)] 38 :: .blk bB #[.pointer (some ⟨D.b, 0, none⟩)] 38 :: .blk D.b (dcells dur D.m D.down).toArray 87 :: mapX D.m D.ml D.cl :: (secsE D.secs ++ A)) (fun _ _ _ => False) (⟨D.dur, O.dur, fun j => rfl, rfl⟩) (fun pre Hs W TT hI M => by obtain ⟨dur, hdl, -, rfl⟩ := hI; exact ⟨⟨dur, hdl, M.blk 3 rfl⟩, M.mapAt (pos := 4) rfl, fun s hs => M.secRow (by simp [secsE_ent hs]) (hsl s hs), M.blk 0 rfl, M.blk 1 rfl, hp _ (M.sub (by simp only [List.cons_append, List.append_assoc]; exact ((List.sublist_append_left _ _).trans (List.sublist_append_right _ _)).trans (List.sublist_append_right [_, _, _, _, _] _)))⟩) ?_ ?_ ?_))
 ·intro lY pre x tX Hs wr TT a hx hI M S
  simp only [putsL, encK] at S
  obtain ⟨dur, hdl, hdat, rfl⟩ := hI
  obtain ⟨xk, xr⟩ := x
  obtain ⟨hk34, s, hsm, hrm⟩ := keptP_mem (show (xk, xr) ∈ keptP D.secs plan [] by rw [hx]; simp)
  have hr64 := (O.sec s hsm).2.2 xr hrm
  simp only [List.cons_append] at M
  refine wpIn_seq ?_
  refine wpI_region (by kernel_rfl) (fun _ _ h => h) ?_
  refine qG [1] S ?_; clear S a; intro a S
  refine nxC (wpI_region (by kernel_rfl) (fun _ _ h => h) ?_)
  refine qG [1] S ?_; clear S a; intro a S
  refine nxC ?_
  refine ⟨_ :: _ :: _ :: _ :: _ :: (secsE D.secs ++ A), M, ?_⟩; clear M; intro wb TT M; simp only [List.cons_append, List.nil_append] at M
  refine wpIn_block ?_
  refine wpI_region (by kernel_rfl) (fun _ _ h => h) ?_
  refine qR [3] S M ?_; clear S a; intro a S
  skip
  refine qY S (y_move S rfl) ?_; clear S a; intro a S
  refine qG [1, 1] S ?_; clear S a; intro a S
  refine qY S (y_indexA (m := 34) (sz := 64) S (by kernel_rfl) rfl rfl (by first | omega | (simp; done) | (simp; omega))) ?_; clear S a; intro a S
  try simp only [Int.toNat_natCast, Nat.mul_one, Nat.zero_add] at S
  refine qY S (y_sliceA (m := 64) (sz := 1) S (by kernel_rfl) rfl) ?_; clear S a; intro a S
  refine qG [1] S ?_; clear S a; intro a S
  refine st_copy (e := 5) (us := bcells xr.bs) S M 3 rfl rfl (by kernel_rfl) rfl rfl rfl (M.readB (r := xr) (by simp [secsE_ws hsm hrm]) (by omega)) (List.take_of_length_le (by rw [bcells_length]; omega)) (allOne_bcells _) (by rw [dcells_len hdl, bcells_length]; omega) ?_; clear S M a; intro a w3 S M
  simp only [List.set_cons_zero, List.set_cons_succ] at M
  replace S := S.keep [0, 1, 2, 4, 8, 12, 15, 5, 6]
  refine wpList_nil (block_normal ?_)
  skip
  rw [dcells_put hdl hk34 hr64] at M
  refine ⟨_ :: _ :: _ :: _ :: _ :: _, M, _, dset_len hdl hk34 hr64, fun j => ?_, rfl⟩
  rw [dset_at hdl hk34 hr64, List.map_append, List.map_cons, List.map_nil, durK_snoc, hdat j]
 ·intro D1 wd Hs a hI M S
  obtain ⟨dur, hdl, hdat, rfl⟩ := hI
  refine block_normal (nxE (qR [4] S M ?_)); clear S a; intro a S
  skip
  refine qY S (y_nilCheck S rfl) ?_; clear S a; intro a S
  refine qG [2177] S ?_; clear S a; intro a S
  refine qY S (y_load S (by kernel_rfl) rfl (M.cell 4 rfl (dcells_map hdl _ _))) ?_; clear S a; intro a S
  refine st_clearM (pos := 5) S M Tryz.underlying83 rfl rfl rfl ?_; clear M; intro w4 M
  simp only [List.set_cons_zero, List.set_cons_succ] at M
  refine nxA (qR [4] S M ?_); clear S a; intro a S
  skip
  refine qY S (y_nilCheck S rfl) ?_; clear S a; intro a S
  refine qG [2178] S ?_; clear S a; intro a S
  refine st_store (us := [.bool true]) S M 4 rfl (by kernel_rfl) rfl rfl rfl rfl rfl rfl (by rw [dcells_len hdl]; decide) ?_; clear M; intro wS M
  simp only [List.set_cons_zero, List.set_cons_succ] at M
  rw [dcells_setDown hdl] at M
  refine nxA (qG [1] S ?_); clear S a; intro a S
  replace S := S.keep [0, 1, 2, 8, 12, 15, 4]
  refine nxC (wp_ret (end_mark S M 0 rfl ?_)); clear S M a; intro a wM S M
  simp only [List.eraseIdx_cons_succ, List.eraseIdx_cons_zero] at M
  refine end_plain ?_
  refine end_one S rfl (res_tmp rfl) ?_
  refine ⟨rfl, ?_⟩
  have hcr : D.st.crash plan = Dk.st ⟨D.b, D.m, D.cl, [], dur, true, []⟩ := by
   unfold DS.crash
   show DS.mk (durK (durAt D.dur) (keptB (cacheOf D.secs) plan [])) (fun _ => []) true = DS.mk (durAt dur) (cacheOf []) true
   rw [← kept_plain]
   congr 1
   funext j; exact (hdat j).symm
  rw [hcr]
  refine ⟨_, ⟨⟨D.b, D.m, D.cl, [], dur, true, []⟩, rfl, ⟨hdl, good_nil _, .nil, fun _ => rfl, fun s hs => (by cases hs)⟩, rfl, rfl⟩, ?_⟩
  exact (M.sub (H' := Dk.ents ⟨D.b, D.m, D.cl, [], dur, true, []⟩ ++ A) (.cons _ (.cons _ (.cons _ (.cons_cons _ (.cons_cons _ (List.sublist_append_right _ _))))))).perm List.perm_append_comm
 intro D1 wd Hs a cX pre x tX hx hX M S
 exact hX.elim
end Go.Proofs.YtndabhdepjnbcaaGreat

namespace Go.Proofs.YtndabhdepjnbcaaGreat
open Go.RowKit Go.Sort
def durS (S : DS) (t : Int) (j : Nat) : List UInt8 := S.dur (2 + (t + (j : Int)) % 24).toNat
def cacS (S : DS) (t : Int) (j : Nat) : List (List UInt8) := S.cache (2 + (t + (j : Int)) % 24)
theorem secAt_eq (S : DS) (t : Int) (j : Nat) : secAt S t j = match (cacS S t j).getLast? with
 | some b => b
 | none => durS S t j := by
 unfold secAt DS.get cacS durS
 rw [show (((2 + (t + (j : Int)) % 24).toNat : Nat) : Int) = 2 + (t + (j : Int)) % 24 by omega]
 rfl
theorem cacS_write (S : DS) (t : Int) (bs : List UInt8) {i j : Nat} (hi : i < 24) (hj : j < 24) : cacS (S.write (2 + (t + (i : Int)) % 24) bs) t j = if j = i then cacS S t j ++ [bs] else cacS S t j := by
 unfold cacS DS.write
 simp only
 by_cases h : j = i
 ·subst h; rw [if_pos rfl, if_pos rfl]
 ·rw [if_neg h, if_neg (by omega)]
theorem durS_write (S : DS) (t k : Int) (bs : List UInt8) (j : Nat) : durS (S.write k bs) t j = durS S t j := rfl
theorem durS_flush (S : DS) (t : Int) (j : Nat) : durS S.flush t j = secAt S t j := rfl
def DS.still (S : DS) : Prop := ∀ k, S.cache k = []
theorem keptB_mem {c : Int → List (List UInt8)} : ∀ {plan : List (Int × Int)} {told : List Int} {x : Nat × List UInt8}, x ∈ keptB c plan told → x.2 ∈ c (x.1 : Int)
 | [], _, x, h => by cases h
 | p :: l, told, x, h => by
   unfold keptB at h
   split at h
   ·rename_i hc
    rcases List.mem_append.1 h with h | h
    ·split at h
     ·rename_i r hr
      rw [List.mem_singleton] at h; subst h
      split at hr
      ·have := List.mem_of_getElem? hr
       rw [show (((p.1.toNat : Nat)) : Int) = p.1 by have := hc.1; omega]
       exact this
      ·cases hr
     ·cases h
    ·exact keptB_mem h
   ·exact keptB_mem h
theorem snoc_rec {α : Type} {P : List α → Prop} (nil : P []) (snoc : ∀ l x, P l → P (l ++ [x])) (l : List α) : P l := by
 have : ∀ n (l : List α), l.length = n → P l := fun n => by
  induction n with
  | zero => intro l h; rw [List.eq_nil_of_length_eq_zero h]; exact nil
  | succ n ih =>
    intro l h
    have hne : l ≠ [] := fun e => by rw [e] at h; cases h
    rw [← List.dropLast_concat_getLast hne]
    exact snoc _ _ (ih _ (by rw [List.length_dropLast, h]; rfl))
 exact this _ l rfl
theorem durK_at (d : Nat → List UInt8) : ∀ (l : List (Nat × List UInt8)) (k : Nat), durK d l k = d k ∨ ∃ x ∈ l, x.1 = k ∧ durK d l k = x.2 := by
 intro l
 induction l using snoc_rec with
 | nil => exact fun k => .inl rfl
 | snoc l x ih =>
   intro k
   rw [durK_snoc]
   by_cases h : k = x.1
   ·rw [if_pos h]; exact .inr ⟨x, by simp, h.symm, rfl⟩
   ·rw [if_neg h]
    rcases ih k with h1 | ⟨y, h1, h2, h3⟩
    ·exact .inl h1
    ·exact .inr ⟨y, by simp [h1], h2, h3⟩
theorem crash_at (S : DS) (plan : List (Int × Int)) (t : Int) (j : Nat) : secAt (S.crash plan) t j = durS S t j ∨ secAt (S.crash plan) t j ∈ cacS S t j := by
 have e : secAt (S.crash plan) t j = durK S.dur (keptB S.cache plan []) (2 + (t + (j : Int)) % 24).toNat := rfl
 rw [e]
 rcases durK_at S.dur (keptB S.cache plan []) (2 + (t + (j : Int)) % 24).toNat with h | ⟨x, h1, h2, h3⟩
 ·exact .inl h
 ·right
  rw [h3]
  have := keptB_mem h1
  rw [h2, show (((2 + (t + (j : Int)) % 24).toNat : Nat) : Int) = 2 + (t + (j : Int)) % 24 by omega] at this
  exact this
theorem secsOf_get (S : DS) (t : Int) {j : Nat} (h : j < 24) : (secsOf S t)[j]? = some (secAt S t j) := by unfold secsOf; simp [h]
theorem secsOf_len (S : DS) (t : Int) : (secsOf S t).length = 24 := by simp [secsOf]
theorem secAt_new (t : Int) (j : Nat) : secAt DS.new t j = zero64 := by
 unfold secAt DS.get DS.new zero64 durAt
 simp only [List.getLast?_nil]
 rw [List.drop_replicate, List.take_replicate]
 congr 1
 omega
structure JInv (S : DS) (t : Int) (G : List FrB) (c : Nat) : Prop where
 len : G.length ≤ 24
 le : c ≤ G.length
 old : ∀ j x, j < c → G[j]? = some x → durS S t j = secB x ∧ cacS S t j = []
 new : ∀ j, c ≤ j → j < 24 → durS S t j = zero64 ∧ cacS S t j = (match G[j]? with
  | some x => [secB x]
  | none => [])
theorem cutF_seq {r : List UInt8} {q inc : Int} {i : Nat} {x : FrB} (h : (cutF r q inc)[i]? = some x) : x.1.seq = q + (i : Int) := by
 unfold cutF at h
 rw [List.getElem?_map] at h
 cases hi : (List.range (nOf r.length))[i]? with
 | none => rw [hi] at h; cases h
 | some k =>
   rw [hi] at h
   have : k = i := by
    have := (List.getElem?_eq_some_iff.1 hi).2
    simpa using this.symm
   subst this
   cases h; rfl
theorem framesL_get (inc : Int) : ∀ (q : Int) (rs : List (List UInt8)) {i : Nat} {x : FrB}, (framesL inc q rs)[i]? = some x → x.1.seq = q + (i : Int) ∧ x.1.inc = inc
 | q, [], i, x, h => by simp [framesL] at h
 | q, r :: rs, i, x, h => by
   rw [framesL] at h
   rcases Nat.lt_or_ge i (cutF r q inc).length with h1 | h1
   ·rw [List.getElem?_append_left h1] at h
    refine ⟨cutF_seq h, ?_⟩
    have := List.mem_of_getElem? h
    unfold cutF at this
    obtain ⟨k, -, rfl⟩ := List.mem_map.1 this
    rfl
   ·rw [List.getElem?_append_right h1] at h
    obtain ⟨h2, h3⟩ := framesL_get inc _ rs h
    rw [cutF_length] at h1 h2
    exact ⟨by rw [h2]; omega, h3⟩
end Go.Proofs.YtndabhdepjnbcaaGreat

namespace Go.Proofs.YtndabhdepjnbcaaGreat
open Go.RowKit Go.Sort
def OldF (y : List UInt8) (q : Int) : Prop := ∀ f ld, readF y = some (f, ld) → f.seq < q
theorem oldF_zero (q : Int) : OldF zero64 q := fun f ld h => by rw [readF_zero] at h; cases h
theorem OldF.mono {y : List UInt8} {q q2 : Int} (h : OldF y q) (hq : q ≤ q2) : OldF y q2 := fun f ld hf => by have := h f ld hf; omega
theorem scan_keptO : ∀ (rs : List (List UInt8)) {q inc inc' : Int} {l : List (Int × List UInt8)} {xs : List (List UInt8)}, inc ≤ inc' → (∀ p ∈ beginsL q rs, cutOk p.2 p.1 inc') → (framesL inc' q rs).length ≤ xs.length →
 (∀ (j : Nat) x y, xs[j]? = some y → (framesL inc' q rs)[j]? = some x → y = secB x ∨ OldF y (q + (j : Int))) → (∀ (j : Nat) y, xs[j]? = some y → (framesL inc' q rs).length ≤ j → OldF y (q + (j : Int))) →
 ∃ k, k ≤ rs.length ∧ (scanP ⟨q, inc, [], l, q⟩ xs).l = l ++ beginsL q (rs.take k) ∧ (scanP ⟨q, inc, [], l, q⟩ xs).next = q + ((framesL inc' q (rs.take k)).length : Nat) ∧ (∀ m, m ≤ rs.length → (∀ (j : Nat) x y, j < (framesL inc' q (rs.take m)).length → xs[j]? = some y → (framesL inc' q rs)[j]? = some x → y = secB x) → m ≤ k) ∧ ∀ (j : Nat) x y, j < (framesL inc' q (rs.take k)).length → xs[j]? = some y → (framesL inc' q rs)[j]? = some x → y = secB x
 | [], q, inc, inc', l, xs, _, _, _, _, hno => by
   have he : Ends q inc xs := fun x t hx f ld hf hs _ _ => by
    have := hno 0 x (by rw [hx]; rfl) (by simp [framesL]) f ld hf
    omega
   obtain ⟨h1, h2⟩ := scan_end (nx := q) (l := l) he
   exact ⟨0, Nat.le_refl _, by rw [h1]; simp [beginsL], by rw [h2]; simp [framesL], fun m hm _ => hm, fun j x y hj => by simp [framesL] at hj⟩
 | r :: rs, q, inc, inc', l, xs, hi, hok, hlen, hin, hno => by
   have hc : cutOk r q inc' := hok (q, r) (by simp [beginsL])
   have hn := cutOk_n hc
   have hFl : (framesL inc' q (r :: rs)).length = nOf r.length + (framesL inc' (q + (nOf r.length : Nat)) rs).length := by rw [framesL, List.length_append, cutF_length]
   have hF : ∀ i, i < nOf r.length → (framesL inc' q (r :: rs))[i]? = some (frOf r q inc' i) := fun i h => by
    rw [framesL, List.getElem?_append_left (by rw [cutF_length]; exact h)]; unfold cutF; simp [h]
   by_cases hall : ∀ (j : Nat) y, j < nOf r.length → xs[j]? = some y → y = secB (frOf r q inc' j)
   ·have hxs : xs = (cutF r q inc').map secB ++ xs.drop (nOf r.length) := by
     refine List.ext_getElem? fun j => ?_
     rcases Nat.lt_or_ge j (nOf r.length) with h1 | h1
     ·rw [List.getElem?_append_left (by simp [cutF_length, h1])]
      obtain ⟨y, hy⟩ : ∃ y, xs[j]? = some y := ⟨_, List.getElem?_eq_getElem (by omega)⟩
      rw [hy, hall j y h1 hy]; unfold cutF; simp [h1]
     ·rw [List.getElem?_append_right (by simp [cutF_length, h1]), List.getElem?_drop]
      simp only [List.length_map, cutF_length]
      congr 1; omega
    have h1 := scan_one (nx := q) (l := l) hc hi (xs.drop (nOf r.length))
    obtain ⟨k, hk, h2, h3, h4, h5⟩ := scan_keptO rs (q := q + (nOf r.length : Nat)) (inc := inc') (inc' := inc') (l := l ++ [(q, r)]) (xs := xs.drop (nOf r.length)) (Int.le_refl _) (fun p hp => hok p (by rw [beginsL]; exact List.mem_cons_of_mem _ hp)) (by rw [List.length_drop]; omega)
     (fun j x y hy hx => by
       have h9 := hin (nOf r.length + j) x y (by rw [← List.getElem?_drop]; exact hy) (by rw [framesL, List.getElem?_append_right (by rw [cutF_length]; omega), cutF_length, show nOf r.length + j - nOf r.length = j by omega]; exact hx)
       rw [show q + ((nOf r.length + j : Nat) : Int) = q + ((nOf r.length : Nat) : Int) + (j : Int) by omega] at h9
       exact h9)
     (fun j y hy hj => by
       have h9 := hno (nOf r.length + j) y (by rw [← List.getElem?_drop]; exact hy) (by omega)
       rw [show q + ((nOf r.length + j : Nat) : Int) = q + ((nOf r.length : Nat) : Int) + (j : Int) by omega] at h9
       exact h9)
    rw [← hxs] at h1
    refine ⟨k + 1, by simp; omega, by rw [h1, h2, List.take_succ_cons, beginsL]; simp, by rw [h1, h3, List.take_succ_cons, framesL, List.length_append, cutF_length]; omega, fun m hm hk2 => ?_, fun j x y hj hy hx => ?_⟩
    rotate_left
    ·rcases Nat.lt_or_ge j (nOf r.length) with h6 | h6
     ·rw [hF j h6] at hx
      rw [← Option.some.inj hx]; exact hall j y h6 hy
     ·rw [List.take_succ_cons, framesL, List.length_append, cutF_length] at hj
      refine h5 (j - nOf r.length) x y (by omega) ?_ ?_
      ·rw [List.getElem?_drop, show nOf r.length + (j - nOf r.length) = j by omega]; exact hy
      ·rw [framesL, List.getElem?_append_right (by rw [cutF_length]; omega), cutF_length] at hx; exact hx
    cases m with
    | zero => omega
    | succ m =>
      have := h4 m (by simpa using hm) fun j x y hj hy hx => by
       refine hk2 (nOf r.length + j) x y ?_ (by rw [← List.getElem?_drop]; exact hy) ?_
       ·rw [List.take_succ_cons, framesL, List.length_append, cutF_length]; omega
       ·rw [framesL, List.getElem?_append_right (by rw [cutF_length]; omega), cutF_length, show nOf r.length + j - nOf r.length = j by omega]; exact hx
      omega
   ·have hsome : ∀ (j : Nat) y p, j < nOf r.length → xs[j]? = some y → readF y = some p → p.1.seq = q + (j : Int) → y = secB (frOf r q inc' j) ∧ p = frOf r q inc' j := fun j y p hj hy hp hsq => by
     rcases hin j _ y hy (hF j hj) with h | h
     ·subst h
      rw [frOf_read hc hj] at hp
      exact ⟨rfl, (Option.some.inj hp).symm⟩
     ·have := h p.1 p.2 hp; omega
    have he : Ends q inc xs := fun x t hx f ld hf hsq _ _ => by
     have hx0 : xs[0]? = some x := by rw [hx]; rfl
     obtain ⟨e1, e2⟩ := hsome 0 x _ (by omega) hx0 hf (by simp only; omega)
     have hof : f.of = (nOf r.length : Nat) := by rw [show f = (frOf r q inc' 0).1 by rw [← e2]]; rfl
     rcases hn with h | h
     ·exfalso
      refine hall fun j y hj hy => ?_
      obtain rfl : j = 0 := by omega
      rw [hx0] at hy; obtain rfl := Option.some.inj hy; exact e1
     ·refine ⟨by rw [hof, h]; decide, fun y t' ht g le hg hsq1 _ _ => ?_⟩
      have hx1 : xs[1]? = some y := by rw [hx, ht]; rfl
      obtain ⟨e3, -⟩ := hsome 1 y _ (by omega) hx1 hg (by simp only; omega)
      refine hall fun j z hj hz => ?_
      rcases (show j = 0 ∨ j = 1 by omega) with rfl | rfl
      ·rw [hx0] at hz; obtain rfl := Option.some.inj hz; exact e1
      ·rw [hx1] at hz; obtain rfl := Option.some.inj hz; exact e3
    obtain ⟨h1, h2⟩ := scan_end (nx := q) (l := l) he
    refine ⟨0, Nat.zero_le _, by rw [h1]; simp [beginsL], by rw [h2]; simp [framesL], fun m hm hk2 => ?_, fun j x y hj => by simp [framesL] at hj⟩
    cases m with
    | zero => exact Nat.le_refl _
    | succ m =>
      exfalso
      refine hall fun j y hj hy => ?_
      exact hk2 j _ y (by rw [List.take_succ_cons, framesL, List.length_append, cutF_length]; omega) hy (hF j hj)
structure LogF (S : DS) (t : Int) (G : List FrB) (c : Nat) : Prop where
 len : G.length ≤ 24
 le : c ≤ G.length
 seq : ∀ (j : Nat) x, G[j]? = some x → x.1.seq = t + (j : Int)
 old : ∀ (j : Nat) x, j < c → G[j]? = some x → durS S t j = secB x ∧ cacS S t j = []
 new : ∀ (j : Nat) x, c ≤ j → G[j]? = some x → cacS S t j = [secB x] ∧ OldF (durS S t j) (t + (j : Int))
 rest : ∀ j : Nat, G.length ≤ j → j < 24 → cacS S t j = [] ∧ OldF (durS S t j) (t + (j : Int))
theorem LogF.start (t : Int) : LogF DS.new t [] 0 :=
 ⟨Nat.zero_le _, Nat.le_refl _, fun j x h => by simp at h, fun j x h => by omega, fun j x _ h => by simp at h, fun j _ _ => ⟨rfl, by have := secAt_new t j; rw [secAt_eq] at this; rw [show durS DS.new t j = zero64 from this]; exact oldF_zero _⟩⟩
theorem LogF.at {S : DS} {t : Int} {G : List FrB} {c : Nat} (h : LogF S t G c) {j : Nat} {x : FrB} (hx : G[j]? = some x) : secAt S t j = secB x := by
 rw [secAt_eq]
 rcases Nat.lt_or_ge j c with h1 | h1
 ·obtain ⟨h2, h3⟩ := h.old j x h1 hx; rw [h3]; exact h2
 ·rw [(h.new j x h1 hx).1]; rfl
theorem LogF.out {S : DS} {t : Int} {G : List FrB} {c : Nat} (h : LogF S t G c) {j : Nat} (h1 : G.length ≤ j) (h2 : j < 24) : secAt S t j = durS S t j := by
 rw [secAt_eq, (h.rest j h1 h2).1]; rfl
theorem LogF.step {S : DS} {t : Int} {G : List FrB} {c : Nat} (h : LogF S t G c) (x : FrB) (hl : G.length < 24) (hx : x.1.seq = t + (G.length : Int)) : LogF (S.write (2 + x.1.seq % 24) (secB x)) t (G ++ [x]) c := by
 have hle := h.le
 have hlen : (G ++ [x]).length = G.length + 1 := by rw [List.length_append]; rfl
 have hget : ∀ {j : Nat} {y : FrB}, (G ++ [x])[j]? = some y → (j < G.length ∧ G[j]? = some y) ∨ (j = G.length ∧ y = x) := fun {j y} hy => by
  rcases Nat.lt_or_ge j G.length with h1 | h1
  ·rw [List.getElem?_append_left h1] at hy; exact .inl ⟨h1, hy⟩
  ·have h2 := (List.getElem?_eq_some_iff.1 hy).1
   rw [hlen] at h2
   obtain rfl : j = G.length := by omega
   rw [List.getElem?_append_right (Nat.le_refl _), Nat.sub_self] at hy
   exact .inr ⟨rfl, (Option.some.inj hy).symm⟩
 refine ⟨by omega, by omega, fun j y hy => ?_, fun j y hj hy => ?_, fun j y hj hy => ?_, fun j hj hj2 => ?_⟩
 ·rcases hget hy with ⟨-, h1⟩ | ⟨rfl, rfl⟩
  ·exact h.seq j y h1
  ·exact hx
 ·rcases hget hy with ⟨h0, h1⟩ | ⟨rfl, rfl⟩
  ·rw [hx, durS_write, cacS_write S t _ hl (by omega), if_neg (by omega)]; exact h.old j y hj h1
  ·omega
 ·rcases hget hy with ⟨h0, h1⟩ | ⟨rfl, rfl⟩
  ·rw [hx, durS_write, cacS_write S t _ hl (by omega), if_neg (by omega)]; exact h.new j y hj h1
  ·rw [hx, durS_write, cacS_write S t _ hl hl, if_pos rfl, (h.rest G.length (Nat.le_refl _) hl).1]
   exact ⟨rfl, (h.rest G.length (Nat.le_refl _) hl).2⟩
 ·rw [hlen] at hj
  rw [hx, durS_write, cacS_write S t _ hl hj2, if_neg (by omega)]
  exact h.rest j (by omega) hj2
theorem LogF.steps {t : Int} {c : Nat} : ∀ (fs : List FrB) {S : DS} {G : List FrB}, LogF S t G c → G.length + fs.length ≤ 24 → (∀ i x, fs[i]? = some x → x.1.seq = t + ((G.length + i : Nat) : Int)) → LogF (putF S fs) t (G ++ fs) c
 | [], S, G, h, _, _ => by rw [List.append_nil]; exact h
 | x :: fs, S, G, h, hl, hs => by
   rw [List.length_cons] at hl
   have h1 := h.step x (by omega) (by have := hs 0 x rfl; simpa using this)
   have h2 := LogF.steps fs h1 (by rw [List.length_append]; simp; omega) (fun i y hy => by
    have := hs (i + 1) y hy
    rw [this, List.length_append]; simp; omega)
   rw [List.append_assoc, List.singleton_append] at h2
   exact h2
theorem LogF.flush {S : DS} {t : Int} {G : List FrB} {c : Nat} (h : LogF S t G c) : LogF S.flush t G G.length := by
 refine ⟨h.len, Nat.le_refl _, h.seq, fun j x hj hx => ⟨by rw [durS_flush]; exact h.at hx, rfl⟩, fun j x hj hx => ?_, fun j hj hj2 => ⟨rfl, ?_⟩⟩
 ·have := (List.getElem?_eq_some_iff.1 hx).1; omega
 ·rw [durS_flush, h.out hj hj2]; exact (h.rest j hj hj2).2
theorem LogF.congr {S S2 : DS} {t : Int} {G : List FrB} {c : Nat} (h : LogF S t G c) (hd : ∀ j, j < 24 → durS S2 t j = durS S t j ∧ cacS S2 t j = cacS S t j) : LogF S2 t G c := by
 have hl := h.len
 refine ⟨h.len, h.le, h.seq, fun j x h1 h2 => ?_, fun j x h1 h2 => ?_, fun j h1 h2 => ?_⟩
 ·have := (List.getElem?_eq_some_iff.1 h2).1
  rw [(hd j (by omega)).1, (hd j (by omega)).2]; exact h.old j x h1 h2
 ·have := (List.getElem?_eq_some_iff.1 h2).1
  rw [(hd j (by omega)).1, (hd j (by omega)).2]; exact h.new j x h1 h2
 ·rw [(hd j h2).1, (hd j h2).2]; exact h.rest j h1 h2
theorem durS_shiftO (S : DS) (t : Int) {m j : Nat} : durS S (t + (m : Int)) j = durS S t (m + j) ∧ cacS S (t + (m : Int)) j = cacS S t (m + j) := by
 have e : t + (m : Int) + (j : Int) = t + ((m + j : Nat) : Int) := by omega
 unfold durS cacS
 rw [e]; exact ⟨rfl, rfl⟩
theorem durS_roundO (S : DS) (t : Int) {j : Nat} (h : 24 ≤ j) : durS S t j = durS S t (j - 24) ∧ cacS S t j = cacS S t (j - 24) := by
 have e : (t + (j : Int)) % 24 = (t + ((j - 24 : Nat) : Int)) % 24 := by omega
 unfold durS cacS
 rw [e]; exact ⟨rfl, rfl⟩
theorem LogF.tail {S : DS} {t : Int} {G X : List FrB} (h : LogF S t (G ++ X) (G ++ X).length) (hr : ∀ x ∈ G, readF (secB x) = some x) : LogF S (t + (G.length : Int)) X X.length := by
 have hlen := h.len
 rw [List.length_append] at hlen
 have hX : ∀ {j : Nat} {x : FrB}, X[j]? = some x → (G ++ X)[G.length + j]? = some x := fun {j x} hx => by
  rw [List.getElem?_append_right (by omega), show G.length + j - G.length = j by omega]; exact hx
 refine ⟨by omega, Nat.le_refl _, fun j x hx => ?_, fun j x hj hx => ?_, fun j x hj hx => ?_, fun j hj hj2 => ?_⟩
 ·rw [h.seq _ x (hX hx)]; omega
 ·rw [(durS_shiftO S t).1, (durS_shiftO S t).2]
  exact h.old (G.length + j) x (by rw [List.length_append]; omega) (hX hx)
 ·have := (List.getElem?_eq_some_iff.1 hx).1; omega
 ·rw [(durS_shiftO S t).1, (durS_shiftO S t).2]
  rcases Nat.lt_or_ge (G.length + j) 24 with h2 | h2
  ·obtain ⟨a, b⟩ := h.rest (G.length + j) (by rw [List.length_append]; omega) h2
   exact ⟨a, b.mono (by omega)⟩
  ·rw [(durS_roundO S t h2).1, (durS_roundO S t h2).2]
   have h3 : G.length + j - 24 < G.length := by omega
   obtain ⟨x, hx⟩ : ∃ x, G[G.length + j - 24]? = some x := ⟨_, List.getElem?_eq_getElem h3⟩
   have hx2 : (G ++ X)[G.length + j - 24]? = some x := by rw [List.getElem?_append_left h3]; exact hx
   obtain ⟨a, b⟩ := h.old _ x (by rw [List.length_append]; omega) hx2
   refine ⟨b, ?_⟩
   rw [a]
   intro f ld hf
   rw [hr x (List.mem_of_getElem? hx)] at hf
   obtain rfl : x.1 = f := congrArg Prod.fst (Option.some.inj hf)
   rw [h.seq _ x hx2]
   omega
theorem LogF.crash {S : DS} {t inc : Int} {rs : List (List UInt8)} {c m : Nat} (h : LogF S t (framesL inc t rs) c) (hok : ∀ p ∈ beginsL t rs, cutOk p.2 p.1 inc) (hi : 0 ≤ inc) (hm : m ≤ rs.length) (hc : (framesL inc t (rs.take m)).length ≤ c) (plan : List (Int × Int)) {S2 : DS} (hs : ∀ j, secAt S2 t j = secAt (S.crash plan) t j) :
 ∃ k, m ≤ k ∧ k ≤ rs.length ∧ (scanOf S2 t).l.map (·.2) = rs.take k ∧ (scanOf S2 t).next = t + ((framesL inc t (rs.take k)).length : Nat) := by
 have hlen := h.len
 have hat : ∀ {j : Nat} {y : List UInt8}, (secsOf S2 t)[j]? = some y → j < 24 ∧ y = secAt (S.crash plan) t j := fun {j y} hy => by
  have hj := (List.getElem?_eq_some_iff.1 hy).1
  rw [secsOf_len] at hj
  rw [secsOf_get S2 t hj, hs] at hy
  exact ⟨hj, (Option.some.inj hy).symm⟩
 obtain ⟨k, h1, h2, h3, h4, -⟩ := scan_keptO rs (q := t) (inc := 0) (inc' := inc) (l := []) (xs := secsOf S2 t) hi hok (by rw [secsOf_len]; exact hlen)
  (fun j x y hy hx => by
    obtain ⟨hj, rfl⟩ := hat hy
    rcases Nat.lt_or_ge j c with h5 | h5
    ·obtain ⟨a, b⟩ := h.old j x h5 hx
     rcases crash_at S plan t j with e | e
     ·left; rw [e, a]
     ·rw [b] at e; cases e
    ·obtain ⟨a, b⟩ := h.new j x h5 hx
     rcases crash_at S plan t j with e | e
     ·right; rw [e]; exact b
     ·left; rw [a] at e; exact List.mem_singleton.1 e)
  (fun j y hy hj => by
    obtain ⟨hj2, rfl⟩ := hat hy
    obtain ⟨a, b⟩ := h.rest j hj hj2
    rcases crash_at S plan t j with e | e
    ·rw [e]; exact b
    ·rw [a] at e; cases e)
 refine ⟨k, h4 m hm fun j x y hj hy hx => ?_, h1, ?_, h3⟩
 ·obtain ⟨hj2, rfl⟩ := hat hy
  obtain ⟨a, b⟩ := h.old j x (by omega) hx
  rcases crash_at S plan t j with e | e
  ·rw [e, a]
  ·rw [b] at e; cases e
 ·have e : scanOf S2 t = scanP ⟨t, 0, [], [], t⟩ (secsOf S2 t) := rfl
  rw [e, h2, List.nil_append, beginsL_snd]
end Go.Proofs.YtndabhdepjnbcaaGreat

namespace Go.Proofs.YtndabhdepjnbcaaGreat
open Go.RowKit Go.Sort
def icells (zs : List Int) : List Value := zs.map fun z => .int .i64 z
end Go.Proofs.YtndabhdepjnbcaaGreat

namespace Go.Proofs.YtndabhdepjnbcaaGreat
open Go.RowKit Go.Sort
def Nm.less (a b : Nm) : Bool := decide (a.stamp < b.stamp ∨ (a.stamp = b.stamp ∧ (a.inc < b.inc ∨ (a.inc = b.inc ∧ a.try_ < b.try_))))
def cmpZ (a b : Int) : Int := if a < b then -1 else if b < a then 1 else 0
def orZ : List Int → Int
 | [] => 0
 | z :: r => if z = 0 then orZ r else z
end Go.Proofs.YtndabhdepjnbcaaGreat

namespace Go.Proofs.YtndabhdepjnbcaaGreat
open Go.RowKit Go.Sort
theorem greatR_any (r : Rc) (ad : Option Addr) (l c : Nat) (w : World) : Calls Tryz.prog 7 #[.agg (r.cells (.slice ad l c))] w fun e w' => e = .returned (.bool (decide ((40 : Int) < (l : Int)))) ∧ Below w.heap.size w w' := by
 have M := Mem.start w
 refine calls_enter Tryz.func7 rfl 7 rfl rfl ?_; intro a S
 refine nxD (st_box S M rfl rfl rfl #[_, _, _, _, _, _, _, _, _, _, _, _] rfl ?_); clear S M a; intro a w1 b1 S M hB
 refine qG [1] S ?_; clear S a; intro a S
 refine nxA (qR [6, 1] S M ?_); clear S a; intro a S
 refine qY S (y_lenS (E := 60) S rfl (by kernel_rfl)) ?_; clear S a; intro a S
 refine qG [1, 1] S ?_; clear S a; intro a S
 refine nxC (wp_ret (end_one S rfl (res_tmp rfl) ?_))
 exact ⟨rfl, M.below⟩
def secsN (r : Rc) (x : List Wr) : Int := if r.may x = true then (((r.enc x).length : Int) + 45 - 1) / 45 else 0
theorem sectorsR_any (r : Rc) (va : Option Addr) (vn vc : Nat) (x : List Wr) (w : World) (hs : r.shards ≤ 9223372036854775807) (hu : Ws 0 w.heap.size w (.slice va vn vc) x) :
 Calls Tryz.prog 52 #[.agg (r.cells (.slice va vn vc))] w fun e w' => e = .returned (.tuple #[.int .i64 (secsN r x), .int .i64 (if r.may x = true then 0 else 2)]) ∧ Below w.heap.size w w' := by
 have M := Mem.start w
 refine calls_enter Tryz.func52 rfl 19 rfl rfl ?_; intro a S
 refine nxD (st_box S M rfl rfl rfl #[_, _, _, _, _, _, _, _, _, _, _, _] rfl ?_); clear S M a; intro a w1 b1 S M hB
 refine qG [1, 1] S ?_; clear S a; intro a S
 refine nxA (qY S (y_loadAgg (cs := [_, _, _, _, _, _, _, _, _, _, _, _]) S (by kernel_rfl) rfl rfl (M.cellsAt (k := 12) 0 rfl rfl)) ?_); clear S a; intro a S
 refine qC (xs := [.tmp 7]) S (qE Tryz.func54) rfl (bytesR_any r va vn vc x _ hs (M.argW hu)) ?_
 rintro _ w2 ⟨v7, rfl, hK, h1, h2⟩; refine ⟨_, rfl, ?_⟩; clear S a; intro a S
 have hF := fresh_if hK h1 (fun h => h2 (by simpa using h))
 obtain ⟨lo2, hi2, -, M⟩ := M.pushFresh hF
 refine qG [1, 1, 1, 1, 1] S ?_; clear S a; intro a S
 refine nxC (wp_seq (nxD (qG [1, 1] S ?_))); clear S a; intro a S
 refine nxC (st_split (t := 12) S rfl ?_ ?_)
 ·clear S; intro h12 S
  refine st_condT S rfl (nxD (qG [1, 1, 1] S ?_)); clear S a; intro a S
  refine nxC (wp_ret (then_ret (end_two S rfl (res_tmp rfl) (res_tmp rfl) ?_)))
  have hm : ¬ r.may x = true := fun hm => by rw [if_pos hm] at h12; simp at h12
  exact ⟨by unfold secsN; rw [if_neg hm, if_neg hm], M.below⟩
 clear S; intro h12 S
 refine st_condF S rfl (wp_skip (then_normal (wp_seq ?_)))
 have hm : r.may x = true := by
  by_cases hm : r.may x = true
  ·exact hm
  ·rw [if_neg hm] at h12; simp at h12
 have hi : (ifL (r.may x = true) (r.enc x)).length = (r.enc x).length := by rw [ifL_pos hm]
 have hl := enc_len hm
 refine wp_region_lit (qG [1] S ?_); clear S a; intro a S
 refine qY S (y_lenR (E := 5) S rfl ((M.readAll 0 rfl (encIf_len r x))) (by kernel_rfl)) ?_; clear S a; intro a S
 (first | refine qY S (y_addN S rfl rfl (by omega)) ?_ | refine qY S (y_int S rfl rfl rfl) ?_); clear S a; intro a S
 (first | refine qY S (y_subN S rfl rfl (by omega)) ?_ | refine qY S (y_int S rfl rfl rfl) ?_); clear S a; intro a S
 refine qY S (y_quoN S rfl rfl (by omega)) ?_; clear S a; intro a S
 refine qG [1, 1] S ?_; clear S a; intro a S
 refine nxC (wp_ret (end_two S rfl (res_tmp rfl) (res_tmp rfl) ?_))
 exact ⟨by unfold secsN; rw [if_pos hm, if_pos hm, hi], M.below⟩
theorem may_shards {r : Rc} {x : List Wr} (h : r.may x = true) : r.shards ≤ 31 := by
 rcases may_cases h with ⟨-, hr, -⟩ | ⟨-, hr, -⟩ | ⟨-, hr, -⟩ | ⟨-, -, -, -, hs, -⟩ | ⟨-, hr, -⟩ | ⟨-, hr, -⟩ | ⟨-, hr, -⟩
 all_goals first
  | (simp only [shardsB, decide_eq_true_eq] at hs; omega)
  | (rw [hr]; simp [Rc.zero])
theorem ReadRP.form {bs : List UInt8} {w w' : World} {e : Ending} (h : ReadRP bs w e w') :
 ∃ (r : Rc) (x : List Wr) (ad : Option Addr) (cp : Nat) (c : Int), e = .returned (.tuple #[.agg (r.cells (.slice ad x.length cp)), .int .i64 c]) ∧ Fresh w w' 60 9 (.slice ad x.length cp) x.length (wcells x) ∧ x.length ≤ 8 ∧ r.shards ≤ 31 ∧
 ((c = 0 ∧ r.may x = true ∧ r.enc x = bs) ∨ (c = 40 ∧ r = Rc.zero ∧ x = [] ∧ ∀ (r : Rc) (x : List Wr), r.may x = true → r.enc x ≠ bs)) := by
 obtain ⟨r, x, v, c, rfl, hF, h⟩ := h
 have h8 : x.length ≤ 8 := by
  rcases h with ⟨-, hm, -⟩ | ⟨-, -, rfl, -⟩
  ·rcases may_cases hm with ⟨-, -, -, h1⟩ | ⟨-, -, -, h1, -⟩ | ⟨-, -, rfl, -⟩ | ⟨-, -, rfl, -⟩ | ⟨-, -, rfl, -⟩ | ⟨-, -, rfl, -⟩ | ⟨-, -, rfl, -⟩
   all_goals first
    | (simp only [writtenB, Bool.and_eq_true, decide_eq_true_eq] at h1; exact h1.1)
    | simp
  ·simp
 have hs : r.shards ≤ 31 := by
  rcases h with ⟨-, hm, -⟩ | ⟨-, rfl, -⟩
  ·exact may_shards hm
  ·simp [Rc.zero]
 obtain ⟨ad, cp, rfl, -, -⟩ := (hF.rd (by unfold maxLen; omega)).form
 refine ⟨r, x, ad, cp, c, rfl, hF, h8, hs, ?_⟩
 rcases h with h | ⟨h1, h2, h3, -, h5⟩
 ·exact .inl h
 ·exact .inr ⟨h1, h2, h3, h5⟩
def rWake : Rc := ⟨3, ⟨1, 1, 1⟩, true, 0, 0, 0, 0, 0, 0⟩
end Go.Proofs.YtndabhdepjnbcaaGreat

namespace Go.Proofs.YtndabhdepjnbcaaGreat
open Go.RowKit Go.Sort
section
variable {ds : List Deferred} {P : Program} {n : Nat} {a : Act} {L : List (Nat × Value)} {w : World}
theorem y_sliceA2 {x lo hi : Operand} {b o t m sz : Nat} {i j : Int} {k1 k2 : IntKind} (S : SeesD ds n a L) (hE : arrayElem P t = some (m, sz)) (hx : val L x = some (.pointer (some ⟨b, o, none⟩))) (h1 : val L lo = some (.int k1 i)) (h2 : val L hi = some (.int k2 j)) (h : 0 ≤ i ∧ i ≤ j ∧ j ≤ m ∧ i < m)
 {d : Option Tmp} {ty : TypeId} {p : String} {ed : Array Edge} {g : Option (Nat × Bool)} : Yields P a ⟨d, .slice t x (some lo) (some hi) none, ty, p, ed, g⟩ w (.slice (some ⟨b, o + i.toNat * sz, none⟩) (j.toNat - i.toNat) (m - i.toNat)) := by
 obtain ⟨e, hu, inf, hinf, rfl⟩ := arrayElem_spec hE
 unfold Yields execOp
 simp only [Option.map_none, Option.map_some, S.eval hx, S.eval h1, S.eval h2]
 have e0 : (⟨b, o, none⟩ : Addr).add (i.toNat * inf.size) = ⟨b, o + i.toNat * inf.size, none⟩ := by simp [Addr.add]
 have hne : ¬ m = i.toNat := by omega
 simp [Instr.sliceAt, Instr.sliceBounds, Instr.sliceBound, asIntOf, underlying, hu, Instr.sureAddr, sizeOf, typeInfo, hinf, h, hne, e0, go_sem]
 rw [if_pos (show 0 ≤ j by omega), if_pos (show i ≤ max j 0 by omega)]
end
def stSu (s : Su) (a b : Int) : St := ⟨[.int .i64 s.gen, .int .i64 s.tail], s.owned, [.int .i64 s.inc, .int .i64 s.bound, .int .i64 s.m0, .int .i64 s.m1, .int .i64 s.m2, .int .i64 s.m3, .int .i64 s.m4, .int .i64 s.m5, .int .i64 s.m6, .int .i64 s.m7, .int .i64 a, .int .i64 b], List.replicate 32 zV8, 0⟩
theorem stSu_ok (s : Su) (a b : Int) : (stSu s a b).ok := ⟨rfl, rfl, rfl, rfl, rfl⟩
theorem stSu_fill (s : Su) : putL (zSt.cellsL (.slice none 0 0)) 0 s.cellsL = (stSu s 0 0).cellsL (.slice none 0 0) := by kernel_rfl
theorem stSu_log (s : Su) (a b : Int) (dv : Value) : (((stSu s 0 0).cellsL dv).set 13 (.int .i64 a)).set 14 (.int .i64 b) = (stSu s a b).cellsL dv := rfl
theorem zero_mid {P Q : List Value} {k : Nat} (h : k < 8) (hp : P.length = 15) : (P ++ (hcells (List.replicate 32 zV8) ++ Q)).take (15 + k * 32) ++ zVs ++ (P ++ (hcells (List.replicate 32 zV8) ++ Q)).drop (15 + k * 32 + zVs.length) = P ++ (hcells (List.replicate 32 zV8) ++ Q) := by
 have hz : hcells (List.replicate 32 zV8) = List.replicate 256 (.int .u8 0) := by kernel_rfl
 have hv : zVs = List.replicate 32 (.int .u8 0) := by kernel_rfl
 rw [hz, hv, List.length_replicate]
 rw [List.take_append, List.drop_append, hp, List.take_of_length_le (by omega), List.drop_of_length_le (by omega)]
 rw [show 15 + k * 32 - 15 = k * 32 by omega, show 15 + k * 32 + 32 - 15 = k * 32 + 32 by omega]
 rw [List.take_append_of_le_length (by rw [List.length_replicate]; omega), List.drop_append_of_le_length (by rw [List.length_replicate]; omega), List.take_replicate, List.drop_replicate]
 rw [List.nil_append, List.append_assoc, List.append_assoc, ← List.append_assoc (List.replicate 32 _), ← List.append_assoc (List.replicate _ _) (_ ++ _), ← List.append_assoc (List.replicate _ _) (List.replicate 32 _), List.replicate_append_replicate, List.replicate_append_replicate]
 congr 3
 omega
theorem stSu_zero (s : Su) (a b : Int) (dv : Value) {k : Nat} (h : k < 8) : ((stSu s a b).cellsL dv).take (15 + k * 32) ++ zVs ++ ((stSu s a b).cellsL dv).drop (15 + k * 32 + zVs.length) = (stSu s a b).cellsL dv :=
 zero_mid (P := (stSu s a b).pre) h rfl
def foldS : St → Pl → Rl → St × Pl
 | s, ps, [] => (s, ps)
 | s, ps, q :: l => foldS (appSt s ps q.1 q.2) (stepO ps q.1 q.2).1 l
theorem foldS_snoc : ∀ (l : Rl) (s : St) (ps : Pl) (q : Rc × List Wr), foldS s ps (l ++ [q]) = (appSt (foldS s ps l).1 (foldS s ps l).2 q.1 q.2, (stepO (foldS s ps l).2 q.1 q.2).1)
 | [], _, _, _ => rfl
 | p :: l, s, ps, q => foldS_snoc l _ _ q
structure Recs (l : Rl) (bs : List (List UInt8)) : Prop where
 len : l.length = bs.length
 get : ∀ (i : Nat) (q : Rc × List Wr) (b : List UInt8), l[i]? = some q → bs[i]? = some b → q.1.enc q.2 = b ∧ takes q.1 q.2 = true
theorem Recs.nil : Recs [] [] := ⟨rfl, fun i q b h _ => by simp at h⟩
theorem gsR_tail {sec : Nat → List UInt8} {x : Su} (h : gsR sec = (x, 0)) : 1 ≤ x.tail ∧ x.tail ≤ 1099511627776 := by
 unfold gsR at h
 cases hb : bestN sec 2 with
 | some y =>
   rw [hb] at h
   obtain rfl : y = x := congrArg Prod.fst h
   have := bestN_may hb
   exact ⟨this.2.2.2.1, this.2.2.2.2.1⟩
 | none =>
   rw [hb] at h
   simp only at h
   split at h
   ·obtain rfl : suFirst = x := congrArg Prod.fst h
    decide
   ·have := congrArg Prod.snd h; simp at this
def OpenR (wc : World) (A E : List Ent) (S0 : DS) (e : Ending) (w' : World) : Prop :=
 ∃ (s : St) (ps : Pl) (da : Option Addr) (dc lo hi : Nat) (cs : List Value) (es : List Ent) (er : Int), e = .returned (.tuple #[.agg (s.cellsL (.slice da ps.length dc)).toArray, .int .i64 er]) ∧
  Mem wc w' (rowE lo hi 75 6 (.slice da ps.length dc) ps.length cs :: (es ++ (A ++ E))) ∧ PrBk cs ps es ∧ s.ok ∧ ps.length ≤ 24 ∧
  (er = 0 → ∃ (x : Su) (l : Rl), gsR (secD S0) = (x, 0) ∧ Recs l ((scanG S0 x.tail).l.map (·.2)) ∧ foldS (stSu x x.tail (scanG S0 x.tail).next) [] l = (s, ps))
theorem perm_r1 {R X Z U : Ent} {es F : List Ent} : (R :: (es ++ (X :: U :: Z :: F))).Perm (X :: U :: Z :: R :: (es ++ F)) := by
 have h1 : (es ++ (X :: U :: Z :: F)).Perm (X :: U :: Z :: (es ++ F)) := (List.perm_middle).trans (List.Perm.cons _ ((List.perm_middle).trans (List.Perm.cons _ List.perm_middle)))
 refine (List.Perm.cons _ h1).trans ?_
 refine (List.Perm.swap _ _ _).trans (List.Perm.cons _ ?_)
 refine (List.Perm.swap _ _ _).trans (List.Perm.cons _ ?_)
 exact List.Perm.swap _ _ _
theorem perm_r5 {D2 Y W X Z D : Ent} {es G : List Ent} : (D2 :: (es ++ (Y :: W :: X :: Z :: D :: G))).Perm (Y :: W :: X :: Z :: D :: D2 :: (es ++ G)) := by
 have h1 : (es ++ (Y :: W :: X :: Z :: D :: G)).Perm (Y :: W :: X :: Z :: D :: (es ++ G)) := (List.perm_middle).trans (List.Perm.cons _ ((List.perm_middle).trans (List.Perm.cons _ ((List.perm_middle).trans (List.Perm.cons _ ((List.perm_middle).trans (List.Perm.cons _ List.perm_middle)))))))
 refine (List.Perm.cons _ h1).trans ?_
 exact (List.perm_middle (l₁ := [Y, W, X, Z, D])).symm
end Go.Proofs.YtndabhdepjnbcaaGreat

namespace Go.Proofs.YtndabhdepjnbcaaGreat
open Go.RowKit Go.Sort
theorem equalM8 (d : Nat) (a b c e f g h i : Int) (w : World) : (Op.equalIn (d + 2) 47 (.agg #[.int .i64 a, .int .i64 b, .int .i64 c, .int .i64 e, .int .i64 f, .int .i64 g, .int .i64 h, .int .i64 i]) (.agg #[.int .i64 a, .int .i64 b, .int .i64 c, .int .i64 e, .int .i64 f, .int .i64 g, .int .i64 h, .int .i64 i])).run Tryz.prog w = .ok true w := by
 obtain ⟨j, hj⟩ := Option.isSome_iff_exists.1 (show (Tryz.prog.info? 3).isSome = true by kernel_rfl)
 have hc : Tryz.prog.cellsOf 3 = 1 := by kernel_rfl
 rw [run_equalIn_array w (d + 1) _ _ Tryz.underlying47 hj, hc]
 simp only [List.range, List.range.loop, Op.eqItems, part, isAgg, Sem.run_bind, run_underlying Tryz.underlying3, Result.andThen_ok]
 simp [run_equalIn_int w d 3 .i64 .i64 _ _ Tryz.underlying3]
end Go.Proofs.YtndabhdepjnbcaaGreat

namespace Go.Proofs.YtndabhdepjnbcaaGreat
open Go.RowKit Go.Sort
def prRc (p : Pr) : Rc := ⟨2, p.name, false, p.give, p.take, 0, 0, 0, 0⟩
theorem prepare_any (p : Pr) (ad : Option Addr) (l c : Nat) (w : World) : Calls Tryz.prog 145 #[.agg (p.cellsL (.slice ad l c)).toArray] w fun e w' => e = .returned (.agg ((prRc p).cells (.slice ad l c))) ∧ Below w.heap.size w w' := by
 have M := Mem.start w
 refine calls_enter Tryz.func145 rfl 12 rfl rfl ?_; intro a S
 refine nxD (st_box S M rfl rfl rfl #[_, _, _, _, _, _] rfl ?_); clear S M a; intro a w1 bP S M hB
 refine st_alloc S M rfl rfl #[.int .i8 0, .int .i64 0, .int .i64 0, .int .i64 0, .bool false, .slice none 0 0, .int .i64 0, .int .i64 0, .int .i64 0, .int .i64 0, .int .i64 0, .int .i64 0] (by kernel_rfl) ?_; clear S M a; intro a w2 bZ S M hB
 refine nxA (qG [1] S ?_); clear S a; intro a S
 refine qY S (y_loadAgg (cs := [_, _, _]) S (by kernel_rfl) rfl rfl (M.cellsAt (k := 3) 1 rfl rfl)) ?_; clear S a; intro a S
 refine qR [4, 2, 5, 2, 6, 2] S M ?_; clear S a; intro a S
 refine qY S (y_build (ps := [(0, .const (.int .i8 2)), (1, .tmp 4), (3, .tmp 6), (4, .tmp 8), (5, .tmp 10)]) (pl := [(0, 1), (1, 3), (4, 1), (5, 1), (6, 1), (7, 1), (8, 1), (9, 2), (11, 1)]) (z := [.int .i8 0, .int .i64 0, .int .i64 0, .int .i64 0, .bool false, .slice none 0 0, .int .i64 0, .int .i64 0, .int .i64 0, .int .i64 0, .int .i64 0, .int .i64 0]) (cs := [_, _, _, _, _, _, _, _, _, _, _, _]) S (by kernel_rfl) rfl (rfl)) ?_; clear S a; intro a S
 refine qS (sz := 12) (us := [_, _, _, _, _, _, _, _, _, _, _, _]) S M 0 ?_; clear M; intro w3 M
 refine nxC (wp_ret (end_one S rfl (res_agg (cs := [_, _, _, _, _, _, _, _, _, _, _, _]) (by kernel_rfl) rfl rfl (M.cellsAt (k := 12) 0 rfl rfl)) ?_))
 exact ⟨rfl, M.below⟩
theorem Nm.eqb_self (n : Nm) : n.eqb n = true := by simp [Nm.eqb]
theorem equalSu (d : Nat) (s : Su) (w : World) : (Op.equalIn (d + 3) 49 (.agg s.cellsL.toArray) (.agg s.cellsL.toArray)).run Tryz.prog w = .ok true w := by
 have h := equalM8 d s.m0 s.m1 s.m2 s.m3 s.m4 s.m5 s.m6 s.m7 w
 simp [go_sem, h]
def stG (x : Su) (o a b : Int) (h : List V8) (n : Int) : St := ⟨[.int .i64 x.gen, .int .i64 x.tail], o, [.int .i64 x.inc, .int .i64 x.bound, .int .i64 x.m0, .int .i64 x.m1, .int .i64 x.m2, .int .i64 x.m3, .int .i64 x.m4, .int .i64 x.m5, .int .i64 x.m6, .int .i64 x.m7, .int .i64 a, .int .i64 b], h, n⟩
theorem stG_ok (x : Su) (o a b : Int) {h : List V8} (n : Int) (hh : h.length = 32) : (stG x o a b h n).ok := ⟨rfl, rfl, hh, rfl, rfl⟩
end Go.Proofs.YtndabhdepjnbcaaGreat

namespace Go.Proofs.YtndabhdepjnbcaaGreat
open Go.RowKit Go.Sort
variable {ds : List Deferred}
variable {P : Program} {ops : Array Oper} {Q : Exit → Act → World → Prop} {rest : List Oper} {n d : Nat} {a : Act} {L : List (Nat × Value)} {w w0 : World} {H : List Ent}
end Go.Proofs.YtndabhdepjnbcaaGreat

namespace Go.Proofs.YtndabhdepjnbcaaGreat
open Go.RowKit Go.Sort
def BRows (W : World) (v : Value) (bss : List (List UInt8)) : Prop := ∃ vs, Rd 0 W.heap.size W 1 v bss.length vs ∧ ∀ (i : Nat) x bs, vs[i]? = some x → bss[i]? = some bs → Bs 0 W.heap.size W x bs
end Go.Proofs.YtndabhdepjnbcaaGreat

namespace Go.Proofs.YtndabhdepjnbcaaGreat
open Go.RowKit Go.Sort
def wantsP (n : Int) : Int := if n < 1 ∨ 90 < n then 0 else (n + 44) / 45
theorem jflush_any {wc w : World} {A E : List Ent} {b : Nat} {S0 : DS} (hE : DkE b S0 E) (M : Mem wc w (A ++ E)) (hup : S0.down = false) (hw : ∀ k, (S0.cache k).length ≤ 1000000) :
 Calls Tryz.prog 56 #[.pointer (some ⟨b, 0, none⟩)] w fun e w' => e = .returned (.int .i64 0) ∧ ∃ E', DkE b S0.flush E' ∧ Mem wc w' (A ++ E') := by
 refine calls_enter Tryz.func56 rfl 5 rfl rfl ?_; intro a S
 refine nxD (qG [1] S ?_); clear S a; intro a S
 refine nxA (qG [1] S ?_); clear S a; intro a S
 refine qC (xs := [.tmp 3]) S (qE Tryz.func48) rfl (flush_any hE M hup hw) ?_
 rintro _ w1 ⟨rfl, E', hE', M2⟩; refine ⟨_, rfl, ?_⟩; clear S M a; intro a S; have M := M2; clear M2
 refine qG [1] S ?_; clear S a; intro a S
 refine nxC (wp_ret (end_one S rfl (res_tmp rfl) ?_))
 exact ⟨rfl, E', hE', M⟩
end Go.Proofs.YtndabhdepjnbcaaGreat

namespace Go.Proofs.YtndabhdepjnbcaaGreat
open Go.RowKit Go.Sort
def encQ (q : Pr × List Wr) : List UInt8 := (prRc q.1).enc q.2
def mayQ (q : Pr × List Wr) : Prop := (prRc q.1).may q.2 = true
def secQ (q : Pr × List Wr) : Nat := nOf (encQ q).length
def wtP (ps : Pl) : Nat := (ps.map secQ).sum
theorem secQ_le {q : Pr × List Wr} (h : mayQ q) : 1 ≤ secQ q ∧ secQ q ≤ 2 := by
 have := enc_len h
 unfold secQ nOf encQ; omega
theorem secsN_nOf {r : Rc} {x : List Wr} (h : r.may x = true) : secsN r x = ((nOf (r.enc x).length : Nat) : Int) := by
 unfold secsN nOf; rw [if_pos h]; omega
theorem wtP_append (a b : Pl) : wtP (a ++ b) = wtP a + wtP b := by unfold wtP; simp
theorem wtP_snoc (a : Pl) (q : Pr × List Wr) : wtP (a ++ [q]) = wtP a + secQ q := by rw [wtP_append]; simp [wtP]
theorem wtP_take {ps : Pl} {k : Nat} {q : Pr × List Wr} (h : ps[k]? = some q) : wtP (ps.take (k + 1)) = wtP (ps.take k) + secQ q := by
 rw [take_snocP h, wtP_snoc]
theorem wtP_le (ps : Pl) (h : ∀ q ∈ ps, mayQ q) : wtP ps ≤ ps.length * 2 := by
 induction ps with
 | nil => simp [wtP]
 | cons q ps ih =>
   have h1 := ih fun p hp => h p (List.mem_cons_of_mem _ hp)
   have h2 := (secQ_le (h q (List.mem_cons_self ..))).2
   have e : wtP (q :: ps) = secQ q + wtP ps := by simp [wtP]
   rw [e, List.length_cons]; omega
theorem wants9_any (s : St) (hs : s.ok) (dv : Value) (cs : List Value) (ps : Pl) (w : World) (hd : PrsC cs 0 w.heap.size w dv ps) (hps : ps.length ≤ 10000) (hm : ∀ q ∈ ps, mayQ q) : Calls Tryz.prog 105 #[.agg (s.cellsL dv).toArray] w fun e w' => e = .returned (.int .i64 (wtP ps : Nat)) ∧ Below w.heap.size w w' := by
 have M := Mem.start w
 refine calls_enter Tryz.func105 rfl 26 rfl rfl ?_; intro a S
 refine nxD (st_box S M rfl rfl rfl _ rfl ?_); clear S M a; intro a w1 bF S M hB
 refine qG [1] S ?_; clear S a; intro a S
 refine nxA (qG [1] S ?_); clear S a; intro a S
 refine nxC (wp_seq (nxD (qG [272] S ?_))); clear S a; intro a S
 refine qY S (y_load S (by kernel_rfl) rfl (M.cell 0 rfl (St.doubt hs dv))) ?_; clear S a; intro a S
 refine qY S (y_lenR (E := 75) S rfl ((M.prs hd).1) (by kernel_rfl)) ?_; clear S a; intro a S
 refine qG [1] S ?_; clear S a; intro a S
 refine nxC (wp_block (wp_loop_g (fun m a w' => ∃ (k : Nat), k ≤ ps.length ∧ m = ps.length - k ∧ Sees 26 a [(3, .int .i64 ((wtP (ps.take k) : Nat) : Int)), (9, dv), (10, .int .i64 (ps.length : Int)), (11, .int .i64 (k : Int))] ∧ Mem w w' []) (ps.length) ?_ ?_))
 ·skip
  replace M := M.drop 0
  simp only [List.eraseIdx_cons_succ, List.eraseIdx_cons_zero] at M
  exact ⟨0, Nat.zero_le _, rfl, S.sub _ rfl, M⟩
 clear S M a; intro m a wl
 rintro ⟨k, hk, rfl, S, M⟩
 refine nxD (qG [1] S ?_); clear S a; intro a S
 refine nxC (wp_seq (st_fi (t := 12) S rfl ?_ ?_))
 ·clear S; intro h12 S
  refine st_condF S rfl (wp_exit (then_exit (then_exit (block_hit (nxE (qG [1, 1] S ?_)))))); clear S a; intro a S
  refine nxC (wp_ret (end_one S rfl (res_tmp rfl) ?_))
  obtain rfl : k = ps.length := by omega
  exact ⟨by rw [List.take_length], M.below⟩
 clear S; intro h12 S
 refine st_condT S rfl (wp_skip (then_normal (wp_seq (wp_block (nxD ?_)))))
 have hk' : k < ps.length := by omega
 obtain ⟨q, hq⟩ : ∃ q, ps[k]? = some q := ⟨_, List.getElem?_eq_getElem hk'⟩
 obtain ⟨ad, cp, hrow, hws⟩ := hd.sl hq
 have hmq := hm q (List.mem_of_getElem? hq)
 have hwl := wtP_le (ps.take k) fun p hp => hm p (List.mem_of_mem_take hp)
 rw [List.length_take] at hwl
 have hsq := secQ_le hmq
 refine qY S (y_indexR (e := 75) (sz := 6) S (by kernel_rfl) rfl ((M.prs hd).1) rfl (by first | omega | (simp; done) | (simp; omega))) ?_; clear S a; intro a S
 try simp only [Int.toNat_natCast, Nat.mul_one, Nat.zero_add] at S
 refine qY S (y_loadAgg S (by kernel_rfl) rfl rfl ((M.prs hd).1.at_.row (i := k) hrow rfl)) ?_; clear S a; intro a S
 refine st_alloc S M rfl rfl #[.int .i64 0, .int .i64 0, .int .i64 0, .slice none 0 0, .int .i64 0, .int .i64 0] (by kernel_rfl) ?_; clear S M a; intro a w2 bP S M hB
 refine qS (sz := 6) (us := [_, _, _, _, _, _]) S M 0 ?_; clear M; intro w3 M
 refine nxA (qY S (y_loadAgg (cs := [_, _, _, _, _, _]) S (by kernel_rfl) rfl rfl (M.cellsAt (k := 6) 0 rfl rfl)) ?_); clear S a; intro a S
 refine qQ (xs := [.tmp 16]) S (qE Tryz.func145) rfl (prepare_any q.1 ad q.2.length cp _) M ?_; clear S M a; intro a w4 S hK M
 refine qQ (xs := [.tmp 17]) S (qE Tryz.func52) rfl (sectorsR_any (prRc q.1) ad q.2.length cp q.2 _ (by show (0 : Int) ≤ _; omega) (M.argW hws)) M ?_; clear S M a; intro a w5 S hK M
 rw [secsN_nOf hmq, if_pos (show (prRc q.1).may q.2 = true from hmq), show nOf ((prRc q.1).enc q.2).length = secQ q from rfl] at S
 refine qG [1, 1, 1, 1, 1] S ?_; clear S a; intro a S
 refine nxB (qG [1, 1] S ?_); clear S a; intro a S
 (first | refine qY S (y_addN S rfl rfl (by omega)) ?_ | refine qY S (y_int S rfl rfl rfl) ?_); clear S a; intro a S
 refine qG [1] S ?_; clear S a; intro a S
 refine wpList_nil (block_normal (nxF ?_))
 (first | refine qY S (y_addN S rfl rfl (by omega)) ?_ | refine qY S (y_int S rfl rfl rfl) ?_); clear S a; intro a S
 refine qG [1] S ?_; clear S a; intro a S
 replace S := S.keep [9, 10, 12, 5, 6, 3, 11]
 refine nxC ?_
 skip
 replace M := M.drop 0
 simp only [List.eraseIdx_cons_succ, List.eraseIdx_cons_zero] at M
 refine ⟨ps.length - (k + 1), by omega, k + 1, by omega, rfl, ?_, M⟩
 rw [wtP_take hq, Int.natCast_add]; exact S.sub _ rfl
def sv1 (h : List V8) (ps : Pl) (x : Su) (j : Nat) (p : DS × Int) : DS × Int :=
 if j < 8 then (p.1.write (26 + (j : Int)) (pad64 (homeB ((h.drop (j * 4)).take 4))), p.2)
 else if j = 8 then (p.1.flush, p.2)
 else match ps[j - 9]? with
  | some q => (putF p.1 (cutF (encQ q) p.2 x.inc), p.2 + (secQ q : Nat))
  | none => if j = 10 + ps.length then (p.1.write (x.gen % 2) (supS x), p.2) else (p.1.flush, p.2)
def sv (h : List V8) (ps : Pl) (x : Su) : Nat → DS × Int → DS × Int
 | 0, p => p
 | j + 1, p => sv1 h ps x j (sv h ps x j p)
theorem sv1_put {h : List V8} {ps : Pl} {x : Su} {j : Nat} {p : DS × Int} (hj : j < 8) : sv1 h ps x j p = (p.1.write (26 + (j : Int)) (pad64 (homeB ((h.drop (j * 4)).take 4))), p.2) := by unfold sv1; rw [if_pos hj]
theorem sv1_fl {h : List V8} {ps : Pl} {x : Su} {j : Nat} {p : DS × Int} (hj : j = 8 ∨ j = 9 + ps.length ∨ 10 + ps.length < j) : sv1 h ps x j p = (p.1.flush, p.2) := by
 unfold sv1
 rcases hj with hj | hj
 ·rw [if_neg (by omega), if_pos hj]
 ·rw [if_neg (by omega), if_neg (by omega), List.getElem?_eq_none (by omega)]
  simp only
  rw [if_neg (by omega)]
theorem sv1_app {h : List V8} {ps : Pl} {x : Su} {i : Nat} {q : Pr × List Wr} {p : DS × Int} (hq : ps[i]? = some q) : sv1 h ps x (9 + i) p = (putF p.1 (cutF (encQ q) p.2 x.inc), p.2 + (secQ q : Nat)) := by
 unfold sv1; rw [if_neg (by omega), if_neg (by omega), show 9 + i - 9 = i by omega, hq]
theorem sv1_sup {h : List V8} {ps : Pl} {x : Su} {p : DS × Int} : sv1 h ps x (10 + ps.length) p = (p.1.write (x.gen % 2) (supS x), p.2) := by
 unfold sv1; rw [if_neg (by omega), if_neg (by omega), List.getElem?_eq_none (by omega)]
 simp only
 rw [if_pos trivial]
theorem sv1_down (h : List V8) (ps : Pl) (x : Su) (j : Nat) (p : DS × Int) : (sv1 h ps x j p).1.down = p.1.down := by
 unfold sv1; split
 ·rfl
 ·split
  ·rfl
  ·split
   ·exact putF_down _ _
   ·split <;> rfl
theorem sv_down (h : List V8) (ps : Pl) (x : Su) (p : DS × Int) : ∀ j, (sv h ps x j p).1.down = p.1.down
 | 0 => rfl
 | j + 1 => by rw [sv, sv1_down, sv_down h ps x p j]
theorem sv1_cache (h : List V8) {ps : Pl} (x : Su) (j : Nat) (p : DS × Int) (hm : ∀ q ∈ ps, mayQ q) {c : Nat} (hc : ∀ k, (p.1.cache k).length ≤ c) : ∀ k, ((sv1 h ps x j p).1.cache k).length ≤ c + 2 := by
 intro k
 unfold sv1; split
 ·have := write_cache_le (k := 26 + (j : Int)) (bs := pad64 (homeB ((h.drop (j * 4)).take 4))) hc k; simp only; omega
 ·split
  ·exact Nat.zero_le _
  ·split
   ·rename_i q hq
    have h1 := putF_cache_le (cutF (encQ q) p.2 x.inc) hc k
    rw [cutF_length] at h1
    have := (secQ_le (hm q (List.mem_of_getElem? hq))).2
    unfold secQ at this
    simp only; omega
   ·split
    ·have := write_cache_le (k := x.gen % 2) (bs := supS x) hc k; simp only; omega
    ·exact Nat.zero_le _
theorem sv_cache (h : List V8) {ps : Pl} (x : Su) (p : DS × Int) (hm : ∀ q ∈ ps, mayQ q) {c : Nat} (hc : ∀ k, (p.1.cache k).length ≤ c) : ∀ j k, ((sv h ps x j p).1.cache k).length ≤ c + 2 * j
 | 0, k => hc k
 | j + 1, k => by
   have := sv1_cache h x j (sv h ps x j p) hm (sv_cache h x p hm hc j) k
   rw [sv]; omega
theorem sv_n (h : List V8) (ps : Pl) (x : Su) (p : DS × Int) : ∀ j, (sv h ps x j p).2 = p.2 + (wtP (ps.take (j - 9)) : Nat)
 | 0 => by simp [sv, wtP]
 | j + 1 => by
   have ih := sv_n h ps x p j
   rw [sv]
   rcases Nat.lt_or_ge j 9 with h9 | h9
   ·have e : (sv1 h ps x j (sv h ps x j p)).2 = (sv h ps x j p).2 := by
     unfold sv1; split
     ·rfl
     ·rw [if_pos (by omega)]
    rw [e, ih, show j - 9 = 0 by omega, show j + 1 - 9 = 0 by omega]
   ·obtain ⟨i, rfl⟩ : ∃ i, j = 9 + i := ⟨j - 9, by omega⟩
    rw [show 9 + i - 9 = i by omega] at ih
    rw [show 9 + i + 1 - 9 = i + 1 by omega]
    cases hq : ps[i]? with
    | some q => rw [sv1_app hq, ih, wtP_take hq]; simp only; omega
    | none =>
      have hl := List.getElem?_eq_none_iff.1 hq
      have e : (sv1 h ps x (9 + i) (sv h ps x (9 + i) p)).2 = (sv h ps x (9 + i) p).2 := by
       unfold sv1
       rw [if_neg (by omega), if_neg (by omega), show 9 + i - 9 = i by omega, hq]
       simp only
       split <;> rfl
      rw [e, ih, List.take_of_length_le hl, List.take_of_length_le (by omega)]
def stX (x : Su) (a b : Int) (h : List V8) (n : Int) : St := stG x x.owned a b h n
theorem stX_ok (x : Su) (a b : Int) {h : List V8} (n : Int) (hh : h.length = 32) : (stX x a b h n).ok := stG_ok x x.owned a b n hh
abbrev stB (b : Nat) (x : Su) (a n : Int) (h : List V8) (k : Int) (dv : Value) : Ent := .blk b ((stX x a n h k).cellsL dv).toArray 57
theorem stX_log (x : Su) (a b : Int) (h : List V8) (n : Int) (dv : Value) : cutL ((stX x a b h n).cellsL dv).toArray.toList 13 2 = some [.int .i64 a, .int .i64 b] :=
 cutL_mid [.int .i64 x.gen, .int .i64 x.tail, .int .i64 x.owned, .int .i64 x.inc, .int .i64 x.bound, .int .i64 x.m0, .int .i64 x.m1, .int .i64 x.m2, .int .i64 x.m3, .int .i64 x.m4, .int .i64 x.m5, .int .i64 x.m6, .int .i64 x.m7] [.int .i64 a, .int .i64 b] (hcells h ++ [dv, .int .i64 n])
theorem stX_inc (x : Su) (a b : Int) (h : List V8) (n : Int) (dv : Value) : ((stX x a b h n).cellsL dv).toArray[3]? = some (.int .i64 x.inc) := rfl
theorem stX_nxt (x : Su) (a b : Int) (h : List V8) (n : Int) (dv : Value) : ((stX x a b h n).cellsL dv).toArray[14]? = some (.int .i64 b) := rfl
theorem stX_tl (x : Su) (a b : Int) (h : List V8) (n : Int) (dv : Value) : ((stX x a b h n).cellsL dv).toArray[1]? = some (.int .i64 x.tail) := rfl
theorem stX_gen (x : Su) (a b : Int) (h : List V8) (n : Int) (dv : Value) : ((stX x a b h n).cellsL dv).toArray[0]? = some (.int .i64 x.gen) := rfl
theorem stX_sup (x : Su) (a b : Int) (h : List V8) (n : Int) (dv : Value) : cutL ((stX x a b h n).cellsL dv).toArray.toList 0 13 = some x.cellsL := cutL_mid [] x.cellsL ([.int .i64 a, .int .i64 b] ++ (hcells h ++ [dv, .int .i64 n]))
theorem stX_setlog (x : Su) (a b a' b' : Int) (h : List V8) (n : Int) (dv : Value) : (((stX x a b h n).cellsL dv).set 13 (.int .i64 a')).set 14 (.int .i64 b') = (stX x a' b' h n).cellsL dv := rfl
set_option maxHeartbeats 1000000 in
theorem stepF_any {wc w : World} {A E : List Ent} {b bd : Nat} {S0 : DS} (hE : DkE bd S0 E) (M : Mem wc w (.blk b #[.pointer (some ⟨bd, 0, none⟩)] 38 :: (A ++ E))) (hup : S0.down = false) (hw : ∀ k, (S0.cache k).length ≤ 1000000) :
 Calls Tryz.prog 146 #[.pointer (some ⟨b, 0, none⟩)] w fun e w' => e = .returned (.int .i64 0) ∧ ∃ E', DkE bd S0.flush E' ∧ Mem wc w' (.blk b #[.pointer (some ⟨bd, 0, none⟩)] 38 :: (A ++ E')) := by
 refine calls_enter Tryz.func146 rfl 4 rfl rfl ?_; intro a S
 refine wp_seq ?_
 skip
 refine wp_region_lit (qG [1] S ?_); clear S a; intro a S
 refine nxA (qR [1] S M ?_); clear S a; intro a S
 refine qC (xs := [.tmp 2]) S (qE Tryz.func56) rfl (jflush_any (A := _ :: A) hE M hup hw) ?_
 rintro _ w1 ⟨rfl, E2, hE2, M1⟩; refine ⟨_, rfl, ?_⟩; clear S M a; intro a S; have M := M1; clear M1
 refine qG [1] S ?_; clear S a; intro a S
 refine nxC (wp_ret (end_one S rfl (res_tmp rfl) ?_))
 exact ⟨rfl, E2, hE2, M⟩
end Go.Proofs.YtndabhdepjnbcaaGreat

namespace Go.Proofs.YtndabhdepjnbcaaGreat
open Go.RowKit Go.Sort
theorem hcells_app (a b : List V8) : hcells (a ++ b) = hcells a ++ hcells b := by simp [hcells]
theorem hcells4 {h : List V8} (hl : h.length = 32) {j : Nat} (hj : j < 8) : ∃ x0 x1 x2 x3, (h.drop (j * 4)).take 4 = [x0, x1, x2, x3] := by
 have e : ((h.drop (j * 4)).take 4).length = 4 := by rw [List.length_take, List.length_drop]; omega
 match (h.drop (j * 4)).take 4, e with
 | [x0, x1, x2, x3], _ => exact ⟨x0, x1, x2, x3, rfl⟩
theorem stX_home (x : Su) (a b : Int) {h : List V8} (n : Int) (dv : Value) {j : Nat} (hl : h.length = 32) (hj : j < 8) : cutL ((stX x a b h n).cellsL dv).toArray.toList (15 + j * 32) 32 = some (hcells ((h.drop (j * 4)).take 4)) := by
 have e : (stX x a b h n).cellsL dv = ((stX x a b h n).pre ++ hcells (h.take (j * 4))) ++ (hcells ((h.drop (j * 4)).take 4) ++ (hcells ((h.drop (j * 4)).drop 4) ++ [dv, .int .i64 n])) := by
  have e2 : hcells h = hcells (h.take (j * 4)) ++ (hcells ((h.drop (j * 4)).take 4) ++ hcells ((h.drop (j * 4)).drop 4)) := by
   rw [← hcells_app, ← hcells_app, List.take_append_drop, List.take_append_drop]
  show (stX x a b h n).pre ++ (hcells h ++ [dv, .int .i64 n]) = _
  rw [e2]; simp only [List.append_assoc]
 have l0 : ((stX x a b h n).pre ++ hcells (h.take (j * 4))).length = 15 + j * 32 := by
  rw [List.length_append, hcells_length, List.length_take, St.pre_len (stX_ok x a b n hl)]; omega
 have l2 : (hcells ((h.drop (j * 4)).take 4)).length = 32 := by rw [hcells_length, List.length_take, List.length_drop]; omega
 have := cutL_mid ((stX x a b h n).pre ++ hcells (h.take (j * 4))) (hcells ((h.drop (j * 4)).take 4)) (hcells ((h.drop (j * 4)).drop 4) ++ [dv, .int .i64 n])
 rw [l0, l2, ← e] at this
 exact this
set_option maxHeartbeats 1000000 in
theorem stepP_any {wc w : World} {A E : List Ent} {bj b2 b3 bS bd : Nat} {S0 : DS} (j : Nat) (x : Su) (a9 n : Int) (h : List V8) (k : Int) (dv : Value) (hE : DkE bd S0 E)
 (M : Mem wc w (.blk bj #[.int .i64 (j : Int)] 3 :: .blk b2 #[.pointer (some ⟨bd, 0, none⟩)] 38 :: .blk b3 #[.pointer (some ⟨bS, 0, none⟩)] 196 :: stB bS x a9 n h k dv :: (A ++ E))) (hup : S0.down = false) (hw : ∀ k, (S0.cache k).length ≤ 1000000) (hj : j < 8) (hl : h.length = 32) :
 Calls Tryz.prog 147 #[.pointer (some ⟨bj, 0, none⟩), .pointer (some ⟨b2, 0, none⟩), .pointer (some ⟨b3, 0, none⟩)] w fun e w' => e = .returned (.int .i64 0) ∧ ∃ E', DkE bd (S0.write (26 + (j : Int)) (pad64 (homeB ((h.drop (j * 4)).take 4)))) E' ∧ Mem wc w' (.blk bj #[.int .i64 (j : Int)] 3 :: .blk b2 #[.pointer (some ⟨bd, 0, none⟩)] 38 :: .blk b3 #[.pointer (some ⟨bS, 0, none⟩)] 196 :: stB bS x a9 n h k dv :: (A ++ E')) := by
 obtain ⟨x0, x1, x2, x3, h4⟩ := hcells4 hl hj
 have hcell := stX_home x a9 n k dv hl hj
 rw [h4] at hcell ⊢
 refine calls_enter Tryz.func147 rfl 20 rfl rfl ?_; intro a S
 refine wp_seq ?_
 skip
 refine wp_region_lit (qG [1] S ?_); clear S a; intro a S
 refine nxC (wp_seq (wp_quiet M (by kernel_rfl) (by kernel_rfl) ?_))
 refine qt_y S rfl rfl rfl (fun w M => y_load S (by kernel_rfl) rfl (M.cell 0 rfl rfl)) ?_; clear S a; intro a S
 (first | refine qt_y S rfl rfl rfl (fun w M => y_mulN S rfl rfl (by omega)) ?_ | refine qt_y S rfl rfl rfl (fun w M => y_int S rfl rfl rfl) ?_); clear S a; intro a S
 refine qt_y S rfl rfl rfl (fun w M => y_load S (by kernel_rfl) rfl (M.cell 0 rfl rfl)) ?_; clear S a; intro a S
 (first | refine qt_y S rfl rfl rfl (fun w M => y_addN S rfl rfl (by omega)) ?_ | refine qt_y S rfl rfl rfl (fun w M => y_int S rfl rfl rfl) ?_); clear S a; intro a S
 (first | refine qt_y S rfl rfl rfl (fun w M => y_mulN S rfl rfl (by omega)) ?_ | refine qt_y S rfl rfl rfl (fun w M => y_int S rfl rfl rfl) ?_); clear S a; intro a S
 refine qt_y S rfl rfl rfl (fun w M => y_assign S rfl) ?_; clear S a; intro a S
 refine qt_y S rfl rfl rfl (fun w M => y_assign S rfl) ?_; clear S a; intro a S
 refine wpQuiet_nil ?_; clear M; intro w1 M
 refine then_normal (wp_seq (wp_regionK [8] #[false, false, false, false, false, false, false, false, false, false] rfl M (by kernel_rfl) ?_)); clear M; intro w2 M
 refine k_read 0 S rfl (fun w hW => have M := M.grow hW; y_load S (by kernel_rfl) rfl (M.cell 1 rfl rfl)) ?_; clear S a; intro a S
 refine k_read 1 S rfl (fun w hW => have M := M.grow hW; y_load S (by kernel_rfl) rfl (M.cell 0 rfl rfl)) ?_; clear S a; intro a S
 refine k_read 2 S rfl (fun w hW => have M := M.grow hW; y_load S (by kernel_rfl) rfl (M.cell 2 rfl rfl)) ?_; clear S a; intro a S
 refine k_pure 3 S rfl (fun w => y_nilCheck S rfl) ?_; clear S a; intro a S
 refine k_pure 4 S rfl (fun w => y_fieldAddr (k := 15) S (by kernel_rfl) rfl) ?_; clear S a; intro a S
 refine k_pure 5 S rfl (fun w => y_move S rfl) ?_; clear S a; intro a S
 refine k_pure 6 S rfl (fun w => y_move S rfl) ?_; clear S a; intro a S
 refine k_pure 7 S rfl (fun w => y_sliceA2 (m := 32) (sz := 8) S (by kernel_rfl) rfl rfl rfl (by first | omega | (simp; done) | (simp; omega))) ?_; clear S a; intro a S
 refine k_one 8 rfl (by kernel_rfl) ?_
 rw [show 0 + 15 + ((j : Int) * 4).toNat * 8 = 15 + j * 32 by omega, show (((j : Int) + 1) * 4).toNat - ((j : Int) * 4).toNat = 4 by omega] at S
 refine qC (xs := [.tmp 11, .tmp 12, .tmp 18]) S (qE Tryz.func148) rfl (put9_any (A := [_, _, _] ++ (_ :: A)) (bS := bS) (o := 15 + j * 32) j x0 x1 x2 x3 hE M hup hj hw (fun W M9 => M9.cellsAt (k := 32) 3 rfl hcell)) ?_
 rintro _ w3 ⟨rfl, E2, hE2, M1⟩; refine ⟨_, rfl, ?_⟩; clear S M a; intro a S; have M := M1; clear M1
 simp only [List.cons_append, List.nil_append] at M
 refine wpList_nil ?_; refine then_normal ?_; refine ⟨fun h => absurd h (by decide), ?_⟩
 refine k_pure 9 S rfl (fun w => y_assign S rfl) ?_; clear S a; intro a S
 refine k_end (by kernel_rfl) ?_
 replace S := S.keep [0, 1, 2, 4, 5, 3]
 refine then_normal (wp_ret (end_one S rfl (res_tmp rfl) ?_))
 exact ⟨rfl, E2, hE2, M⟩
set_option maxHeartbeats 1000000 in
theorem stepA_any {wc w : World} {A E : List Ent} {bj b2 b3 bS bd : Nat} {S0 : DS} (q : Pr × List Wr) (ad : Option Addr) (cp : Nat) (x : Su) (a9 n : Int) (h : List V8) (k : Int) (dv : Value) (hE : DkE bd S0 E)
 (M : Mem wc w (.blk bj (q.1.cellsL (.slice ad q.2.length cp)).toArray 75 :: .blk b2 #[.pointer (some ⟨bd, 0, none⟩)] 38 :: .blk b3 #[.pointer (some ⟨bS, 0, none⟩)] 196 :: stB bS x a9 n h k dv :: (A ++ E))) (hup : S0.down = false) (hw : ∀ k, (S0.cache k).length ≤ 100000) (hl : h.length = 32)
 (hm : mayQ q) (hW : ∀ W H, Mem wc W (H ++ (A ++ E)) → Ws 0 W.heap.size W (.slice ad q.2.length cp) q.2) (hlg : mayL a9 n) (hn : n ≤ 2147483648) (hi : 0 ≤ x.inc ∧ x.inc ≤ 1048576) (hroom : n + (secQ q : Nat) ≤ a9 + 24) :
 Calls Tryz.prog 149 #[.pointer (some ⟨bj, 0, none⟩), .pointer (some ⟨b2, 0, none⟩), .pointer (some ⟨b3, 0, none⟩)] w fun e w' => e = .returned (.int .i64 0) ∧ ∃ E', DkE bd (putF S0 (cutF (encQ q) n x.inc)) E' ∧ Mem wc w' (.blk bj (q.1.cellsL (.slice ad q.2.length cp)).toArray 75 :: .blk b2 #[.pointer (some ⟨bd, 0, none⟩)] 38 :: .blk b3 #[.pointer (some ⟨bS, 0, none⟩)] 196 :: stB bS x a9 (n + (secQ q : Nat)) h k dv :: (A ++ E')) := by
 have hok := stX_ok x a9 n k hl
 have hel : 1 ≤ (encQ q).length ∧ (encQ q).length ≤ 90 := enc_len hm
 refine calls_enter Tryz.func149 rfl 34 rfl rfl ?_; intro a S
 refine wp_seq ?_
 skip
 refine wp_region_lit (qG [1] S ?_); clear S a; intro a S
 refine nxA (qY S (y_loadAgg (cs := [_, _, _, _, _, _]) S (by kernel_rfl) rfl rfl (M.cellsAt (k := 6) 0 rfl rfl)) ?_); clear S a; intro a S
 refine qQ (xs := [.tmp 7]) S (qE Tryz.func145) rfl (prepare_any q.1 ad q.2.length cp _) M ?_; clear S M a; intro a w1 S hK M
 refine qC (xs := [.tmp 8]) S (qE Tryz.func54) rfl (bytesR_any (prRc q.1) ad q.2.length cp q.2 _ (by show (0 : Int) ≤ _; omega) (hW _ [_, _, _, _] M)) ?_
 rintro _ w2 ⟨v1, rfl, hK, hF, -⟩; refine ⟨_, rfl, ?_⟩; clear S a; intro a S
 have hF := hF hm
 rw [if_pos (show (prRc q.1).may q.2 = true from hm)] at S
 obtain ⟨lo3, hi3, -, M1⟩ := M.pushFresh hF; clear M; have M := M1; clear M1
 refine qG [1, 1, 1, 1, 1] S ?_; clear S a; intro a S
 refine nxC (wp_seq (nxD (qG [1, 1] S ?_))); clear S a; intro a S
 refine nxC (st_if (t := 13) S rfl ?_ ?_)
 ·clear S; intro h13 S
  exact absurd rfl h13
 clear S; intro h13 S
 refine st_condF S rfl (wp_skip (then_normal (wp_seq (wp_regionKC (C := fun W => Blk W b3 #[.pointer (some ⟨bS, 0, none⟩)] 196) [12, 18] #[false, false, false, false, false, false, false, false, false, false, false, false, false, false, false, false, false, false, false, false] rfl M (by kernel_rfl) ?_)))); clear M; intro w3 M; have hC := M.blk 3 rfl
 refine kc_readC 0 S rfl hC (fun w hC => y_load S (by kernel_rfl) rfl (hC.cells 0)) ?_; clear S a; intro a S
 refine kc_read 1 S rfl hC (fun w hW => have M := M.grow hW; y_load S (by kernel_rfl) rfl (M.cell 2 rfl rfl)) ?_; clear S a; intro a S
 refine kc_read 2 S rfl hC (fun w hW => have M := M.grow hW; y_load S (by kernel_rfl) rfl (M.cell 3 rfl rfl)) ?_; clear S a; intro a S
 refine kc_readC 3 S rfl hC (fun w _ => y_nilCheck S rfl) ?_; clear S a; intro a S
 refine kc_readC 4 S rfl hC (fun w _ => y_fieldAddr (k := 13) S (by kernel_rfl) rfl) ?_; clear S a; intro a S
 refine kc_read 5 S rfl hC (fun w hW => have M := M.grow hW; y_loadAgg S (by kernel_rfl) rfl rfl (show CellsAt _ _ _ [.int .i64 a9, .int .i64 n] from M.cellsAt (k := 2) 4 rfl (stX_log _ _ _ _ _ _))) ?_; clear S a; intro a S
 refine kc_read 6 S rfl hC (fun w hW => have M := M.grow hW; y_load S (by kernel_rfl) rfl (M.cell 3 rfl rfl)) ?_; clear S a; intro a S
 refine kc_readC 7 S rfl hC (fun w _ => y_nilCheck S rfl) ?_; clear S a; intro a S
 refine kc_readC 8 S rfl hC (fun w _ => y_fieldAddr (k := 0) S (by kernel_rfl) rfl) ?_; clear S a; intro a S
 refine kc_readC 9 S rfl hC (fun w _ => y_fieldAddr (k := 3) S (by kernel_rfl) rfl) ?_; clear S a; intro a S
 refine kc_read 10 S rfl hC (fun w hW => have M := M.grow hW; y_load S (by kernel_rfl) rfl (M.cell 4 rfl (stX_inc _ _ _ _ _ _))) ?_; clear S a; intro a S
 refine kc_readC 11 S rfl hC (fun w _ => y_move S rfl) ?_; clear S a; intro a S
 refine kc_one 12 rfl (by kernel_rfl) ?_
 refine qC (xs := [.tmp 17, .tmp 21, .tmp 26, .tmp 27]) S (qE Tryz.func55) rfl (append_any (A := [_, _, _, _] ++ (_ :: A)) a9 n x.inc v1 (encQ q) hE M (fun W M9 => M9.readAll 0 rfl (by show (encQ q).length ≤ maxLen; unfold maxLen; omega)) hup hlg hn hi hw) ?_
 rintro _ w4 ⟨n', er, S2, rfl, hP, E2, hE2, M1⟩; refine ⟨_, rfl, ?_⟩; clear S M a; intro a S; have M := M1; clear M1
 obtain ⟨rfl, rfl, rfl⟩ : n' = n + (secQ q : Nat) ∧ er = 0 ∧ S2 = putF S0 (cutF (encQ q) n x.inc) := by
  rcases hP with ⟨-, h1, h2, h3⟩ | ⟨h1, -⟩
  ·exact ⟨h1, h2, h3⟩
  ·exact absurd ⟨fun e => by rw [e] at hel; simp at hel, hel.2, by show ((secQ q : Nat) : Int) ≤ _; omega⟩ h1
 simp only [List.cons_append, List.nil_append] at M
 replace hC := M.blk 3 rfl
 refine wpList_nil ?_; refine then_normal ?_; refine ⟨fun h => absurd h (by decide), hC, ?_⟩
 refine kc_readC 13 S rfl hC (fun w _ => y_move S rfl) ?_; clear S a; intro a S
 refine kc_readC 14 S rfl hC (fun w _ => y_extract S rfl rfl) ?_; clear S a; intro a S
 refine kc_readC 15 S rfl hC (fun w _ => y_extract S rfl rfl) ?_; clear S a; intro a S
 skip
 refine kc_readC 16 S rfl hC (fun w _ => y_nilCheck S rfl) ?_; clear S a; intro a S
 refine kc_readC 17 S rfl hC (fun w _ => y_fieldAddr (k := 13) S (by kernel_rfl) rfl) ?_; clear S a; intro a S
 refine kc_one 18 rfl (by kernel_rfl) ?_
 refine st_store (sz := 2) (us := [_, _]) S M 4 rfl (by kernel_rfl) rfl rfl rfl rfl rfl rfl (by rw [St.len hok]; exact (by decide : 15 ≤ 273)) ?_; clear M; intro w5 M
 simp only [putL, List.set_cons_zero, List.set_cons_succ, Nat.reduceAdd] at M
 replace hC := M.blk 3 rfl
 refine wpList_nil ?_; refine then_normal ?_; refine ⟨fun h => absurd h (by decide), hC, ?_⟩
 refine kc_readC 19 S rfl hC (fun w _ => y_assign S rfl) ?_; clear S a; intro a S
 refine kc_end (by kernel_rfl) ?_
 replace S := S.keep [0, 1, 2, 3, 4, 13, 5]
 refine nxE (qG [1, 1] S ?_); clear S a; intro a S
 refine nxC (wp_ret (end_one S rfl (res_tmp rfl) ?_))
 rw [stX_setlog] at M
 exact ⟨rfl, E2, hE2, M.drop 0⟩
theorem stepS_any {wc w : World} {A E : List Ent} {b2 b3 bS bd : Nat} {S0 : DS} (x : Su) (a9 n : Int) (h : List V8) (k : Int) (dv : Value) (hE : DkE bd S0 E)
 (M : Mem wc w (.blk b2 #[.pointer (some ⟨bd, 0, none⟩)] 38 :: .blk b3 #[.pointer (some ⟨bS, 0, none⟩)] 196 :: stB bS x a9 n h k dv :: (A ++ E))) (hup : S0.down = false) (hw : ∀ k, (S0.cache k).length ≤ 1000000) (hm : x.may) :
 Calls Tryz.prog 150 #[.pointer (some ⟨b2, 0, none⟩), .pointer (some ⟨b3, 0, none⟩)] w fun e w' => e = .returned (.int .i64 0) ∧ ∃ E', DkE bd (S0.write (x.gen % 2) (supS x)) E' ∧ Mem wc w' (.blk b2 #[.pointer (some ⟨bd, 0, none⟩)] 38 :: .blk b3 #[.pointer (some ⟨bS, 0, none⟩)] 196 :: stB bS x a9 n h k dv :: (A ++ E')) := by
 refine calls_enter Tryz.func150 rfl 9 rfl rfl ?_; intro a S
 refine wp_seq ?_
 skip
 refine wp_region_lit (qG [1] S ?_); clear S a; intro a S
 refine nxC (wp_seq (wp_regionK [5] #[false, false, false, false, false, false, false] rfl M (by kernel_rfl) ?_)); clear M; intro w1 M
 refine k_read 0 S rfl (fun w hW => have M := M.grow hW; y_load S (by kernel_rfl) rfl (M.cell 0 rfl rfl)) ?_; clear S a; intro a S
 refine k_read 1 S rfl (fun w hW => have M := M.grow hW; y_load S (by kernel_rfl) rfl (M.cell 1 rfl rfl)) ?_; clear S a; intro a S
 refine k_pure 2 S rfl (fun w => y_nilCheck S rfl) ?_; clear S a; intro a S
 refine k_pure 3 S rfl (fun w => y_fieldAddr (k := 0) S (by kernel_rfl) rfl) ?_; clear S a; intro a S
 refine k_read 4 S rfl (fun w hW => have M := M.grow hW; y_loadAgg S (by kernel_rfl) rfl rfl (show CellsAt _ _ _ x.cellsL from M.cellsAt (k := 13) 2 rfl (stX_sup _ _ _ _ _ _))) ?_; clear S a; intro a S
 refine k_one 5 rfl (by kernel_rfl) ?_
 refine qC (xs := [.tmp 3, .tmp 7]) S (qE Tryz.func47) rfl (putSuper_any (A := [_, _] ++ (_ :: A)) x hE M hup hm hw) ?_
 rintro _ w2 ⟨rfl, E2, hE2, M1⟩; refine ⟨_, rfl, ?_⟩; clear S M a; intro a S; have M := M1; clear M1
 simp only [List.cons_append, List.nil_append] at M
 refine wpList_nil ?_; refine then_normal ?_; refine ⟨fun h => absurd h (by decide), ?_⟩
 refine k_pure 6 S rfl (fun w => y_assign S rfl) ?_; clear S a; intro a S
 refine k_end (by kernel_rfl) ?_
 refine then_normal (wp_ret (end_one S rfl (res_tmp rfl) ?_))
 exact ⟨rfl, E2, hE2, M⟩
end Go.Proofs.YtndabhdepjnbcaaGreat

namespace Go.Proofs.YtndabhdepjnbcaaGreat
open Go.RowKit Go.Sort
abbrev pB (b : Nat) : Value := .pointer (some ⟨b, 0, none⟩)
def stepV (b2 b3 : Nat) (ps : Pl) (cs : List Value) (F : List Ent) (j : Nat) (v : Value) : Prop :=
 if j < 8 then ∃ bj, v = .func (.func 147) #[] #[pB bj, pB b2, pB b3] ∧ Ent.blk bj #[.int .i64 (j : Int)] 3 ∈ F
 else if j = 8 then v = .func (.func 146) #[] #[pB b2]
 else match ps[j - 9]? with
  | some _ => ∃ bj, v = .func (.func 149) #[] #[pB bj, pB b2, pB b3] ∧ Ent.blk bj ((cs.drop ((j - 9) * 6)).take 6).toArray 75 ∈ F
  | none => if j = 10 + ps.length then v = .func (.func 150) #[] #[pB b2, pB b3] else v = .func (.func 146) #[] #[pB b2]
theorem stepV.mono {b2 b3 : Nat} {ps : Pl} {cs : List Value} {F F2 : List Ent} {j : Nat} {v : Value} (h : stepV b2 b3 ps cs F j v) (hs : ∀ e ∈ F, e ∈ F2) : stepV b2 b3 ps cs F2 j v := by
 unfold stepV at *
 split
 ·rename_i hj; rw [if_pos hj] at h
  obtain ⟨bj, h1, h2⟩ := h
  exact ⟨bj, h1, hs _ h2⟩
 ·rename_i hj; rw [if_neg hj] at h
  split
  ·rename_i h8; rw [if_pos h8] at h; exact h
  ·rename_i h8; rw [if_neg h8] at h
   cases hq : ps[j - 9]? with
   | none => rw [hq] at h; exact h
   | some q =>
     rw [hq] at h
     obtain ⟨bj, h1, h2⟩ := h
     exact ⟨bj, h1, hs _ h2⟩
structure StepsBk (b2 b3 : Nat) (ps : Pl) (cs : List Value) (F : List Ent) (n : Nat) (fc : List Value) : Prop where
 len : fc.length = n
 get : ∀ (j : Nat) (v : Value), fc[j]? = some v → stepV b2 b3 ps cs F j v
theorem StepsBk.nil (b2 b3 : Nat) (ps : Pl) (cs : List Value) (F : List Ent) : StepsBk b2 b3 ps cs F 0 [] := ⟨rfl, fun j v h => by simp at h⟩
theorem StepsBk.snoc {b2 b3 : Nat} {ps : Pl} {cs : List Value} {F F2 : List Ent} {n : Nat} {fc : List Value} {v : Value} (h : StepsBk b2 b3 ps cs F n fc) (hs : ∀ e ∈ F, e ∈ F2) (hv : stepV b2 b3 ps cs F2 n v) : StepsBk b2 b3 ps cs F2 (n + 1) (fc ++ [v]) := by
 refine ⟨by rw [List.length_append, h.len]; rfl, fun j u hu => ?_⟩
 rcases Nat.lt_or_ge j fc.length with h1 | h1
 ·rw [List.getElem?_append_left h1] at hu
  exact (h.get j u hu).mono hs
 ·have h2 := (List.getElem?_eq_some_iff.1 hu).1
  rw [List.length_append, List.length_singleton] at h2
  obtain rfl : j = fc.length := by omega
  rw [List.getElem?_append_right (Nat.le_refl _), Nat.sub_self] at hu
  cases hu
  rw [h.len]; exact hv
theorem stepV_put {b2 b3 : Nat} {ps : Pl} {cs : List Value} {F : List Ent} {j bj : Nat} (hj : j < 8) : stepV b2 b3 ps cs (.blk bj #[.int .i64 (j : Int)] 3 :: F) j (.func (.func 147) #[] #[pB bj, pB b2, pB b3]) := by
 unfold stepV; rw [if_pos hj]; exact ⟨bj, rfl, List.mem_cons_self ..⟩
theorem stepV_fl {b2 b3 : Nat} {ps : Pl} {cs : List Value} {F : List Ent} {j : Nat} (hj : j = 8 ∨ j = 9 + ps.length ∨ j = 11 + ps.length) : stepV b2 b3 ps cs F j (.func (.func 146) #[] #[pB b2]) := by
 unfold stepV
 rcases hj with hj | hj
 ·rw [if_neg (by omega), if_pos hj]
 ·rw [if_neg (by omega), if_neg (by omega), List.getElem?_eq_none (by omega)]
  simp only
  rw [if_neg (by omega)]
  trivial
theorem stepV_app {b2 b3 : Nat} {ps : Pl} {cs us : List Value} {F : List Ent} {i bj : Nat} {q : Pr × List Wr} (hq : ps[i]? = some q) (hr : (cs.drop (i * 6)).take 6 = us) : stepV b2 b3 ps cs (.blk bj us.toArray 75 :: F) (9 + i) (.func (.func 149) #[] #[pB bj, pB b2, pB b3]) := by
 unfold stepV
 rw [if_neg (by omega), if_neg (by omega), show 9 + i - 9 = i by omega, hq]
 exact ⟨bj, rfl, by rw [hr]; exact List.mem_cons_self ..⟩
theorem stepV_sup {b2 b3 : Nat} {ps : Pl} {cs : List Value} {F : List Ent} : stepV b2 b3 ps cs F (10 + ps.length) (.func (.func 150) #[] #[pB b2, pB b3]) := by
 unfold stepV
 rw [if_neg (by omega), if_neg (by omega), List.getElem?_eq_none (by omega)]
 simp only
 rw [if_pos trivial]
 trivial
set_option maxHeartbeats 1000000 in
theorem steps_any {wc w : World} {H : List Ent} {bS bd lo hi : Nat} (x : Su) (a9 n : Int) (h : List V8) (k : Int) (da : Option Addr) (dc : Nat) (cs : List Value) (ps : Pl) (es : List Ent) (hl : h.length = 32) (hps : ps.length ≤ 1000) (hPB : PrBk cs ps es)
 (M : Mem wc w (stB bS x a9 n h k (.slice da ps.length dc) :: rowE lo hi 75 6 (.slice da ps.length dc) ps.length cs :: H)) :
 Calls Tryz.prog 106 #[pB bd, pB bS] w fun e w' => ∃ b2 b3 ra rc rlo rhi fc F, e = .returned (.slice ra (12 + ps.length) rc) ∧ StepsBk b2 b3 ps cs F (12 + ps.length) fc ∧
  Mem wc w' (rowE rlo rhi 64 1 (.slice ra (12 + ps.length) rc) (12 + ps.length) fc :: .blk b2 #[pB bd] 38 :: .blk b3 #[pB bS] 196 :: stB bS x a9 n h k (.slice da ps.length dc) :: rowE lo hi 75 6 (.slice da ps.length dc) ps.length cs :: (F ++ H)) := by
 have hok := stX_ok x a9 n k hl
 refine calls_enter Tryz.func106 rfl 45 rfl rfl ?_; intro a S
 refine wp_seq ?_
 skip
 refine wp_region_lit (st_box S M rfl rfl rfl #[_] rfl ?_); clear S M a; intro a w1 bB S M hB
 refine st_box S M rfl rfl rfl #[_] rfl ?_; clear S M a; intro a w2 bC S M hB
 refine qG [1] S ?_; clear S a; intro a S
 refine nxA (qY S (y_makeFunc (fs := []) (cs := [.tmp 2]) S rfl rfl) ?_); clear S a; intro a S
 refine qG [1] S ?_; clear S a; intro a S
 refine nxA (qG [1] S ?_); clear S a; intro a S
 refine nxC (wp_seq (nxD (qG [1] S ?_))); clear S a; intro a S
 refine nxC (wp_block (wp_loop_g (fun m a w' => ∃ (j : Nat) (ra : Option Addr) (rc rlo rhi : Nat) (fc : List Value) (F : List Ent), j ≤ 8 ∧ m = 8 - j ∧ StepsBk bB bC ps cs F j fc ∧ Sees 45 a [(2, pB bB), (3, pB bC), (5, .func (.func 146) #[] #[pB bB]), (6, .slice ra j rc), (12, .int .i64 (j : Int))] ∧ Mem wc w' (rowE rlo rhi 64 1 (.slice ra j rc) j fc :: .blk bB #[pB bd] 38 :: .blk bC #[pB bS] 196 :: stB bS x a9 n h k (.slice da ps.length dc) :: rowE lo hi 75 6 (.slice da ps.length dc) ps.length cs :: (F ++ H))) (8) ?_ ?_))
 ·skip
  replace M := M.ord [3, 3, 2, 3] (by simp only [ordO, oG, oS, oE, oZ, oB] <;> rfl)
  obtain ⟨rlo, rhi, M1⟩ := M.nilRow 64 1
  exact ⟨0, none, 0, rlo, rhi, [], [], Nat.zero_le _, rfl, StepsBk.nil _ _ _ _ _, S.sub _ rfl, M1⟩
 clear S M a; intro m a wl
 rintro ⟨j, ra, rc, rlo, rhi, fc, F, hj, rfl, hSB, S, M⟩
 have hfl := hSB.len
 refine nxD (qG [1] S ?_); clear S a; intro a S
 refine nxC (wp_seq (st_if (t := 13) S rfl ?_ ?_))
 ·clear S; intro h13 S
  refine st_condT S rfl (wp_skip (then_normal (wp_seq (wp_block (nxD (qG [1] S ?_)))))); clear S a; intro a S
  refine st_alloc S M rfl rfl #[.int .i64 0] (by kernel_rfl) ?_; clear S M a; intro a w3 bK S M hB
  refine qS (sz := 1) (us := [_]) S M 0 ?_; clear M; intro w4 M
  refine nxB (qG [1] S ?_); clear S a; intro a S
  refine qY S (y_makeFunc (fs := []) (cs := [.tmp 7, .tmp 2, .tmp 3]) S rfl rfl) ?_; clear S a; intro a S
  refine st_lit (ps := [(0, .tmp 16)]) (e := 64) (sz := 1) (zl := [.nilFunc]) (cs := [_]) S M rfl rfl (by kernel_rfl) rfl (rfl) ?_; clear S M a; intro a w5 bZ S M hB
  refine st_append (e := 64) (sz := 1) (by_ := 8) (zc := [.nilFunc]) S M 2 rfl rfl (by kernel_rfl) rfl (by decide) rfl rfl rfl (show Rd _ _ _ 1 _ 1 [.func (.func 147) #[] #[pB bK, pB bB, pB bC]] from M.sliceAt 0 rfl (M.cellsAt (k := 1) 0 rfl rfl) rfl (Nat.le_refl _) (by unfold maxLen; omega)) (rfl) (by omega) (by unfold maxLen; omega) ?_; clear S M a; intro a w6 vA loA hiA S M
  obtain ⟨aA, cA, rfl, -, -⟩ := (M.readAll 0 rfl (by unfold maxLen; omega)).form
  replace M := M.drop 1
  simp only [List.eraseIdx_cons_succ, List.eraseIdx_cons_zero] at M
  refine qY S (y_assign S rfl) ?_; clear S a; intro a S
  refine wpList_nil (block_normal (nxF ?_))
  (first | refine qY S (y_addN S rfl rfl (by omega)) ?_ | refine qY S (y_int S rfl rfl rfl) ?_); clear S a; intro a S
  refine qG [1] S ?_; clear S a; intro a S
  refine nxC ?_
  skip
  replace M := M.ord [5, 5, 5, 5, 4] (by simp only [ordO, oG, oS, oE, oZ, oB] <;> rfl)
  exact ⟨8 - (j + 1), by omega, j + 1, aA, cA, loA, hiA, _, .blk bK #[.int .i64 (j : Int)] 3 :: F, by omega, rfl, hSB.snoc (fun e he => List.mem_cons_of_mem _ he) (stepV_put (by omega)), S.sub _ rfl, M⟩
 clear S; intro h13 S
 refine st_condF S rfl (wp_exit (then_exit (then_exit (block_hit (then_normal (wp_seq ?_))))))
 obtain rfl : j = 8 := by omega
 refine wp_region_lit (qG [1, 1] S ?_); clear S a; intro a S
 refine st_lit (ps := [(0, .tmp 21)]) (e := 64) (sz := 1) (zl := [.nilFunc]) (cs := [_]) S M rfl rfl (by kernel_rfl) rfl (rfl) ?_; clear S M a; intro a w7 bZ S M hB
 refine st_append (e := 64) (sz := 1) (by_ := 8) (zc := [.nilFunc]) S M 1 rfl rfl (by kernel_rfl) rfl (by decide) rfl rfl rfl (show Rd _ _ _ 1 _ 1 [.func (.func 146) #[] #[pB bB]] from M.sliceAt 0 rfl (M.cellsAt (k := 1) 0 rfl rfl) rfl (Nat.le_refl _) (by unfold maxLen; omega)) (rfl) (by omega) (by unfold maxLen; omega) ?_; clear S M a; intro a w8 vA loA hiA S M
 obtain ⟨aA, cA, rfl, -, -⟩ := (M.readAll 0 rfl (by unfold maxLen; omega)).form
 have hSB2 := hSB.snoc (fun e he => he) (stepV_fl (F := F) (b3 := bC) (cs := cs) (ps := ps) (j := 8) (b2 := bB) (.inl rfl))
 replace M := M.drop 1
 simp only [List.eraseIdx_cons_succ, List.eraseIdx_cons_zero] at M
 refine qY S (y_assign S rfl) ?_; clear S a; intro a S
 refine nxC (wp_seq (nxD (qR [3] S M ?_))); clear S a; intro a S
 skip
 refine qY S (y_nilCheck S rfl) ?_; clear S a; intro a S
 refine qG [272] S ?_; clear S a; intro a S
 refine qY S (y_load S (by kernel_rfl) rfl (M.cell 3 rfl (St.doubt hok _))) ?_; clear S a; intro a S
 refine qY S (y_lenR (E := 75) S rfl (M.readAll 4 rfl (by unfold maxLen; omega)) (by kernel_rfl)) ?_; clear S a; intro a S
 refine qG [1] S ?_; clear S a; intro a S
 refine nxC (wp_block (wp_loop_g (fun m a w' => ∃ (i : Nat) (ra : Option Addr) (rc rlo rhi : Nat) (fc : List Value) (F : List Ent), i ≤ ps.length ∧ m = ps.length - i ∧ StepsBk bB bC ps cs F (9 + i) fc ∧ Sees 45 a [(2, pB bB), (3, pB bC), (5, .func (.func 146) #[] #[pB bB]), (6, .slice ra (9 + i) rc), (27, .slice da ps.length dc), (28, .int .i64 (ps.length : Int)), (29, .int .i64 (i : Int))] ∧ Mem wc w' (rowE rlo rhi 64 1 (.slice ra (9 + i) rc) (9 + i) fc :: .blk bB #[pB bd] 38 :: .blk bC #[pB bS] 196 :: stB bS x a9 n h k (.slice da ps.length dc) :: rowE lo hi 75 6 (.slice da ps.length dc) ps.length cs :: (F ++ H))) (ps.length) ?_ ?_))
 ·skip
  replace M := M.ord [4, 4, 4, 4, 4] (by simp only [ordO, oG, oS, oE, oZ, oB] <;> rfl)
  exact ⟨0, aA, cA, loA, hiA, _, F, Nat.zero_le _, rfl, hSB2, S.sub _ rfl, M⟩
 clear S M a; intro m a wl
 rintro ⟨i, ra, rc, rlo, rhi, fc, F, hi', rfl, hSB, S, M⟩
 have hfl := hSB.len
 refine nxD (qG [1] S ?_); clear S a; intro a S
 refine nxC (wp_seq (st_fi (t := 30) S rfl ?_ ?_))
 ·clear S; intro h30 S
  refine st_condF S rfl (wp_exit (then_exit (then_exit (block_hit (then_normal (wp_seq ?_))))))
  obtain rfl : i = ps.length := by omega
  refine wp_region_lit (qY S (y_makeFunc (fs := []) (cs := [.tmp 2, .tmp 3]) S rfl rfl) ?_); clear S a; intro a S
  refine qG [1] S ?_; clear S a; intro a S
  refine nxA (qG [1, 1, 1, 1] S ?_); clear S a; intro a S
  refine st_lit (ps := [(0, .tmp 40), (1, .tmp 41), (2, .tmp 42)]) (e := 64) (sz := 1) (zl := [.nilFunc, .nilFunc, .nilFunc]) (cs := [_, _, _]) S M rfl rfl (by kernel_rfl) rfl (rfl) ?_; clear S M a; intro a w13 bZ S M hB
  refine st_append (e := 64) (sz := 1) (by_ := 8) (zc := [.nilFunc]) S M 1 rfl rfl (by kernel_rfl) rfl (by decide) rfl rfl rfl (show Rd _ _ _ 1 _ 3 [.func (.func 146) #[] #[pB bB], .func (.func 150) #[] #[pB bB, pB bC], .func (.func 146) #[] #[pB bB]] from M.sliceAt 0 rfl (M.cellsAt (k := 3) 0 rfl rfl) rfl (Nat.le_refl _) (by unfold maxLen; omega)) (rfl) (by omega) (by unfold maxLen; omega) ?_; clear S M a; intro a w14 vA loA hiA S M
  obtain ⟨aA, cA, rfl, -, -⟩ := (M.readAll 0 rfl (by unfold maxLen; omega)).form
  replace M := M.drop 1
  simp only [List.eraseIdx_cons_succ, List.eraseIdx_cons_zero] at M
  refine qY S (y_assign S rfl) ?_; clear S a; intro a S
  refine nxC (wp_ret (end_one S rfl (res_tmp rfl) ?_))
  skip
  replace M := M.ord [4, 4, 4, 4, 4] (by simp only [ordO, oG, oS, oE, oZ, oB] <;> rfl)
  have k1 := hSB.snoc (fun e he => he) (stepV_fl (F := F) (b3 := bC) (cs := cs) (ps := ps) (j := 9 + ps.length) (b2 := bB) (.inr (.inl rfl)))
  have k2 := k1.snoc (fun e he => he) (v := .func (.func 150) #[] #[pB bB, pB bC]) (by rw [show 9 + ps.length + 1 = 10 + ps.length by omega]; exact stepV_sup)
  have k3 := k2.snoc (fun e he => he) (v := .func (.func 146) #[] #[pB bB]) (stepV_fl (.inr (.inr (by omega))))
  have e12 : 9 + ps.length + 3 = 12 + ps.length := by omega
  rw [e12] at M
  rw [show 9 + ps.length + 1 + 1 + 1 = 12 + ps.length by omega, List.append_assoc, List.append_assoc] at k3
  exact ⟨bB, bC, aA, cA, loA, hiA, _, F, by rw [e12], k3, M⟩
 clear S; intro h30 S
 refine st_condT S rfl (wp_skip (then_normal (wp_seq (wp_block (wp_seq ?_)))))
 obtain ⟨q, hq⟩ : ∃ q, ps[i]? = some q := ⟨_, List.getElem?_eq_getElem (by omega)⟩
 obtain ⟨ad, cp, wlo, whi, hrow, hmem, -⟩ := hPB.2.2 i q hq
 refine wp_region_lit (qY S (y_indexR (e := 75) (sz := 6) S (by kernel_rfl) rfl ((M.readAll 4 rfl (by unfold maxLen; omega))) rfl (by first | omega | (simp; done) | (simp; omega))) ?_); clear S a; intro a S
 try simp only [Int.toNat_natCast, Nat.mul_one, Nat.zero_add] at S
 refine qY S (y_loadAgg S (by kernel_rfl) rfl rfl ((M.readAll 4 rfl (by unfold maxLen; omega)).at_.row (i := i) hrow rfl)) ?_; clear S a; intro a S
 refine st_alloc S M rfl rfl #[.int .i64 0, .int .i64 0, .int .i64 0, .slice none 0 0, .int .i64 0, .int .i64 0] (by kernel_rfl) ?_; clear S M a; intro a w9 bK S M hB
 refine qS (sz := 6) (us := [_, _, _, _, _, _]) S M 0 ?_; clear M; intro w10 M
 refine nxB (qG [1] S ?_); clear S a; intro a S
 refine qY S (y_makeFunc (fs := []) (cs := [.tmp 9, .tmp 2, .tmp 3]) S rfl rfl) ?_; clear S a; intro a S
 refine st_lit (ps := [(0, .tmp 34)]) (e := 64) (sz := 1) (zl := [.nilFunc]) (cs := [_]) S M rfl rfl (by kernel_rfl) rfl (rfl) ?_; clear S M a; intro a w11 bZ S M hB
 refine st_append (e := 64) (sz := 1) (by_ := 8) (zc := [.nilFunc]) S M 2 rfl rfl (by kernel_rfl) rfl (by decide) rfl rfl rfl (show Rd _ _ _ 1 _ 1 [.func (.func 149) #[] #[pB bK, pB bB, pB bC]] from M.sliceAt 0 rfl (M.cellsAt (k := 1) 0 rfl rfl) rfl (Nat.le_refl _) (by unfold maxLen; omega)) (rfl) (by omega) (by unfold maxLen; omega) ?_; clear S M a; intro a w12 vA loA hiA S M
 obtain ⟨aA, cA, rfl, -, -⟩ := (M.readAll 0 rfl (by unfold maxLen; omega)).form
 replace M := M.drop 1
 simp only [List.eraseIdx_cons_succ, List.eraseIdx_cons_zero] at M
 refine qY S (y_assign S rfl) ?_; clear S a; intro a S
 refine wpList_nil (block_normal (nxF ?_))
 (first | refine qY S (y_addN S rfl rfl (by omega)) ?_ | refine qY S (y_int S rfl rfl rfl) ?_); clear S a; intro a S
 refine qG [1] S ?_; clear S a; intro a S
 refine nxC ?_
 skip
 replace M := M.ord [5, 5, 5, 5, 4] (by simp only [ordO, oG, oS, oE, oZ, oB] <;> rfl)
 exact ⟨ps.length - (i + 1), by omega, i + 1, aA, cA, loA, hiA, _, .blk bK (q.1.cellsL (.slice ad q.2.length cp)).toArray 75 :: F, by omega, rfl, hSB.snoc (fun e he => List.mem_cons_of_mem _ he) (stepV_app hq hrow), S.sub _ rfl, M⟩
end Go.Proofs.YtndabhdepjnbcaaGreat

namespace Go.Proofs.YtndabhdepjnbcaaGreat
open Go.RowKit Go.Sort
theorem perm_inS {α : Type} {F1 F2 G E : List α} {x a b c : α} : (a :: b :: c :: ((F1 ++ x :: F2 ++ G) ++ E)).Perm (x :: a :: b :: c :: ((F1 ++ F2 ++ G) ++ E)) := by
 have e1 : (F1 ++ x :: F2 ++ G) ++ E = F1 ++ x :: (F2 ++ G ++ E) := by simp
 have e2 : (F1 ++ F2 ++ G) ++ E = F1 ++ (F2 ++ G ++ E) := by simp
 rw [e1, e2]
 exact (((List.perm_middle.cons c).cons b).cons a).trans (((((List.Perm.swap x c _).cons b).cons a).trans ((List.Perm.swap x b _).cons a)).trans (List.Perm.swap x a _))
structure StepOk (S0 : DS) (x : Su) (a9 n : Int) (h : List V8) (ps : Pl) (j : Nat) : Prop where
 up : S0.down = false
 cache : ∀ k, (S0.cache k).length ≤ 100000
 hl : h.length = 32
 may : x.may
 lg : mayL a9 n
 big : n ≤ 2147483648
 mq : ∀ q ∈ ps, mayQ q
 room : ∀ (i : Nat) (q : Pr × List Wr), j = 9 + i → ps[i]? = some q → n + (secQ q : Nat) ≤ a9 + 24
theorem stepJ_any {wc w : World} {F G E es : List Ent} {b2 b3 bS bd : Nat} {S0 : DS} (x : Su) (a9 n : Int) (h : List V8) (k : Int) (dv : Value) (cs : List Value) (ps : Pl) (j : Nat) (v : Value) (hv : stepV b2 b3 ps cs F j v) (hE : DkE bd S0 E)
 (M : Mem wc w (.blk b2 #[pB bd] 38 :: .blk b3 #[pB bS] 196 :: stB bS x a9 n h k dv :: ((F ++ G) ++ E))) (hok : StepOk S0 x a9 n h ps j) (hB : PrBk cs ps es) (hes : ∀ e ∈ es, e ∈ G) :
 ∃ (f : FuncId) (ca : List Value), v = .func (.func f) #[] ca.toArray ∧ Enters Tryz.prog f ∧ Calls Tryz.prog f ca.toArray w (fun e w' => e = .returned (.int .i64 0) ∧ ∃ E', DkE bd (sv1 h ps x j (S0, n)).1 E' ∧ Mem wc w' (.blk b2 #[pB bd] 38 :: .blk b3 #[pB bS] 196 :: stB bS x a9 (sv1 h ps x j (S0, n)).2 h k dv :: ((F ++ G) ++ E'))) := by
 obtain ⟨hup, hca, hl, hmay, hlg, hbig, hmq, hroom⟩ := hok
 have hw6 : ∀ k, (S0.cache k).length ≤ 1000000 := fun k => by have := hca k; omega
 have hFl : ∀ {j : Nat}, (j = 8 ∨ j = 9 + ps.length ∨ 10 + ps.length < j) → v = .func (.func 146) #[] #[pB b2] → ∃ (f : FuncId) (ca : List Value), v = .func (.func f) #[] ca.toArray ∧ Enters Tryz.prog f ∧ Calls Tryz.prog f ca.toArray w (fun e w' => e = .returned (.int .i64 0) ∧ ∃ E', DkE bd (sv1 h ps x j (S0, n)).1 E' ∧ Mem wc w' (.blk b2 #[pB bd] 38 :: .blk b3 #[pB bS] 196 :: stB bS x a9 (sv1 h ps x j (S0, n)).2 h k dv :: ((F ++ G) ++ E'))) := by
  intro j hj hv
  rw [sv1_fl hj]
  exact ⟨_, [pB b2], hv, enters_of Tryz.func146 (by decide) rfl, stepF_any (A := _ :: _ :: (F ++ G)) hE M hup hw6⟩
 unfold stepV at hv
 split at hv
 ·rename_i hj
  obtain ⟨bj, rfl, hm⟩ := hv
  obtain ⟨F1, F2, rfl⟩ := List.append_of_mem hm
  refine ⟨_, [pB bj, pB b2, pB b3], rfl, enters_of Tryz.func147 (by decide) rfl, ?_⟩
  rw [sv1_put hj]
  refine (stepP_any (A := F1 ++ F2 ++ G) j x a9 n h k dv hE (M.perm perm_inS) hup hw6 hj hl).mono ?_
  rintro e w' ⟨he, E', hE', M'⟩
  exact ⟨he, E', hE', M'.perm perm_inS.symm⟩
 ·split at hv
  ·rename_i hj; exact hFl (.inl hj) hv
  ·rename_i h8 h9
   obtain ⟨i, rfl⟩ : ∃ i, j = 9 + i := ⟨j - 9, by omega⟩
   rw [show 9 + i - 9 = i by omega] at hv
   cases hq : ps[i]? with
   | none =>
     rw [hq] at hv
     have hil := List.getElem?_eq_none_iff.1 hq
     simp only at hv
     split at hv
     ·rename_i h10
      rw [h10, sv1_sup]
      exact ⟨_, [pB b2, pB b3], hv, enters_of Tryz.func150 (by decide) rfl, stepS_any (A := F ++ G) x a9 n h k dv hE M hup hw6 hmay⟩
     ·rename_i h10
      exact hFl (by omega) hv
   | some q =>
     rw [hq] at hv
     obtain ⟨bj, rfl, hm⟩ := hv
     obtain ⟨ad, cp, lo, hi, hrow, hmem, hx⟩ := hB.2.2 i q hq
     rw [hrow] at hm
     obtain ⟨F1, F2, rfl⟩ := List.append_of_mem hm
     refine ⟨_, [pB bj, pB b2, pB b3], rfl, enters_of Tryz.func149 (by decide) rfl, ?_⟩
     rw [sv1_app hq]
     refine (stepA_any (A := F1 ++ F2 ++ G) q ad cp x a9 n h k dv hE (M.perm perm_inS) hup hca hl (hmq q (List.mem_of_getElem? hq)) (fun W H9 M9 => rowW M9 (List.mem_append_right _ (List.mem_append_left _ (List.mem_append_right _ (hes _ hmem)))) hx) hlg hbig ⟨hmay.2.2.2.2.2.2.2.1, hmay.2.2.2.2.2.2.2.2.1⟩ (hroom i q rfl hq)).mono ?_
     rintro e w' ⟨he, E', hE', M'⟩
     exact ⟨he, E', hE', M'.perm perm_inS.symm⟩
end Go.Proofs.YtndabhdepjnbcaaGreat

namespace Go.Proofs.YtndabhdepjnbcaaGreat
open Go.RowKit Go.Sort
def ckSu (x : Su) (n : Int) : Su := { x with gen := x.gen + 1, tail := n }
theorem stX_set0 (x : Su) (a b : Int) (h : List V8) (n g : Int) (dv : Value) : ((stX x a b h n).cellsL dv).set 0 (.int .i64 g) = (stX { x with gen := g } a b h n).cellsL dv := rfl
theorem stX_set1 (x : Su) (a b : Int) (h : List V8) (n g : Int) (dv : Value) : ((stX x a b h n).cellsL dv).set 1 (.int .i64 g) = (stX { x with tail := g } a b h n).cellsL dv := rfl
theorem stX_set272 (x : Su) (a b : Int) {h : List V8} (hl : h.length = 32) (n g : Int) (dv : Value) : ((stX x a b h n).cellsL dv).set 272 (.int .i64 g) = (stX x a b h g).cellsL dv := by
 rw [St.setA (stX_ok x a b n hl)]; rfl
theorem stX_set13 (x : Su) (a b : Int) (h : List V8) (n g : Int) (dv : Value) : ((stX x a b h n).cellsL dv).set 13 (.int .i64 g) = (stX x g b h n).cellsL dv := rfl
theorem sv_room {h : List V8} {ps : Pl} {x : Su} {S0 : DS} {n : Int} {i : Nat} {q : Pr × List Wr} {a : Int} (hq : ps[i]? = some q) (hr : n + (wtP ps : Nat) ≤ a + 24) : (sv h ps x (9 + i) (S0, n)).2 + (secQ q : Nat) ≤ a + 24 := by
 rw [sv_n, show 9 + i - 9 = i by omega]
 have h1 := wtP_take hq
 have h2 : wtP ps = wtP (ps.take (i + 1)) + wtP (ps.drop (i + 1)) := by rw [← wtP_append, List.take_append_drop]
 simp only; omega
theorem sv_n_le {h : List V8} {ps : Pl} {x : Su} {S0 : DS} {n : Int} (j : Nat) : (sv h ps x j (S0, n)).2 ≤ n + (wtP ps : Nat) := by
 rw [sv_n]
 have h2 : wtP ps = wtP (ps.take (j - 9)) + wtP (ps.drop (j - 9)) := by rw [← wtP_append, List.take_append_drop]
 simp only; omega
theorem sv_n_ge {h : List V8} {ps : Pl} {x : Su} {S0 : DS} {n : Int} (j : Nat) : n ≤ (sv h ps x j (S0, n)).2 := by
 rw [sv_n]; simp only; omega
theorem perm_preS {α : Type} {D : α} {es P G : List α} : (D :: (es ++ (P ++ G))).Perm (P ++ (D :: (es ++ G))) := by
 have h1 : (es ++ (P ++ G)).Perm (P ++ (es ++ G)) := by
  rw [← List.append_assoc, ← List.append_assoc]; exact List.perm_append_comm.append_right G
 exact (h1.cons D).trans (List.perm_middle.symm)
theorem perm_goS {α : Type} {R B C W D X Z : α} {F es A E : List α} : (R :: B :: C :: W :: D :: (F ++ (X :: Z :: (es ++ (A ++ E))))).Perm (B :: C :: W :: ((F ++ (R :: D :: X :: Z :: (es ++ A))) ++ E)) := by
 have e : (F ++ (R :: D :: X :: Z :: (es ++ A))) ++ E = F ++ (R :: D :: (X :: Z :: (es ++ (A ++ E)))) := by simp
 rw [e]
 have h1 : (F ++ (R :: D :: (X :: Z :: (es ++ (A ++ E))))).Perm (R :: D :: (F ++ (X :: Z :: (es ++ (A ++ E))))) := List.perm_middle.trans (List.perm_middle.cons R)
 refine List.Perm.trans ?_ (((h1.cons W).cons C).cons B).symm
 exact (List.Perm.swap B R _).trans (((List.Perm.swap C R _).trans ((List.Perm.swap W R _).cons C)).cons B)
theorem sub_finS {α : Type} {R B C W D X Z : α} {F es A E : List α} : (W :: D :: Z :: (es ++ (A ++ E))).Sublist (B :: C :: W :: ((F ++ (R :: D :: X :: Z :: (es ++ A))) ++ E)) := by
 refine .cons _ (.cons _ (.cons_cons _ ?_))
 have e : (D :: Z :: (es ++ (A ++ E))) = (D :: Z :: (es ++ A)) ++ E := by simp
 rw [e]
 exact (List.Sublist.trans (.cons _ (.cons_cons _ (.cons _ (.cons_cons _ (List.Sublist.refl _))))) (List.sublist_append_right F _)).append (List.Sublist.refl _)
set_option maxHeartbeats 4000000 in
set_option maxRecDepth 10000 in
theorem save9_any {wc w : World} {A E : List Ent} {bd : Nat} {S0 : DS} (x : Su) (a9 n : Int) (h : List V8) (k : Int) (dv : Value) (cs : List Value) (ps : Pl) (hE : DkE bd S0 E) (M : Mem wc w (A ++ E)) (hd : ∀ W H', Mem wc W (H' ++ (A ++ E)) → PrsC cs 0 W.heap.size W dv ps) (hps : ps.length ≤ 20) (hws : ∀ (i : Nat) (q : Pr × List Wr), ps[i]? = some q → q.2.length ≤ 1000000)
 (hup : S0.down = false) (hw : ∀ k, (S0.cache k).length ≤ 10000) (hl : h.length = 32) (hmq : ∀ q ∈ ps, mayQ q) (hlg : mayL a9 n) (hn : n ≤ 2000000000) (hmay : (ckSu x n).may) (hg : 0 ≤ x.gen) (hroom : n + (wtP ps : Nat) ≤ a9 + 24) :
 Calls Tryz.prog 59 #[pB bd, .agg ((stX x a9 n h k).cellsL dv).toArray] w fun e w' => ∃ da dc lo hi cs2 es2 E', e = .returned (.tuple #[.agg ((stX (ckSu x n) n (n + (wtP ps : Nat)) h 0).cellsL (.slice da ps.length dc)).toArray, .int .i64 0]) ∧ DkE bd (sv h ps (ckSu x n) (12 + ps.length) (S0, n)).1 E' ∧ PrBk cs2 ps es2 ∧ Mem wc w' (rowE lo hi 75 6 (.slice da ps.length dc) ps.length cs2 :: (es2 ++ (A ++ E'))) := by
 have hok := stX_ok x a9 n k hl
 have hgm : x.gen + 1 ≤ 1099511627776 := hmay.2.2.1
 have hwt := wtP_le ps hmq
 refine calls_enter Tryz.func59 rfl 59 rfl rfl ?_; intro a S
 refine nxD (st_box S M rfl rfl rfl _ rfl ?_); clear S M a; intro a w1 bX S M hB
 refine st_alloc S M rfl rfl (zSt.cellsL (.slice none 0 0)).toArray (by kernel_rfl) ?_; clear S M a; intro a w2 bZ S M hB
 refine qG [1] S ?_; clear S a; intro a S
 refine nxC (wp_scope_straight ?_)
 refine wp_seq (nxD (qG [1] S ?_)); clear S a; intro a S
 refine qY S (y_eqlPS (by kernel_rfl) S rfl) ?_; clear S a; intro a S
 refine nxC (st_condF S rfl (wp_skip (then_normal (wp_seq (wp_seq (wp_regionK [] #[false, false, false, false, false, false] rfl M (by kernel_rfl) ?_)))))); clear M; intro w3 M
 refine k_pure 0 S rfl (fun w => y_fieldAddr (k := 13) S (by kernel_rfl) rfl) ?_; clear S a; intro a S
 refine k_read 1 S rfl (fun w hW => have M := M.grow hW; y_loadAgg (cs := [_, _]) S (by kernel_rfl) rfl rfl (M.cellsAt (k := 2) 1 rfl (stX_log _ _ _ _ _ _))) ?_; clear S a; intro a S
 refine k_read 3 S rfl (fun w hW => have M := M.grow hW; y_loadAgg (k := 273) (cs := _) S (by kernel_rfl) rfl (by with_reducible first | exact St.len hok _ | exact St.len zSt_ok _ | exact St.len (stX_ok _ _ _ _ hl) _) (M.cellsAt 1 rfl cutL_all)) ?_; clear S a; intro a S
 refine k_one 2 rfl (by kernel_rfl) ?_
 refine qQ (xs := [.tmp 15]) S (qE Tryz.func53) rfl (FreeJ a9 n _ hlg) M ?_; clear S M a; intro a w4 S hK M
 refine wpList_nil ?_; refine then_normal ?_; refine ⟨fun _ => hK, ?_⟩
 refine k_one 4 rfl (by kernel_rfl) ?_
 refine qQ (xs := [.tmp 17]) S (qE Tryz.func105) rfl (wants9_any _ hok dv cs ps _ (hd _ [_, _] M) (by omega) hmq) M ?_; clear S M a; intro a w5 S hK M
 refine wpList_nil ?_; refine then_normal ?_; refine ⟨fun _ => hK, ?_⟩
 refine k_pure 5 S rfl (fun w => y_int S rfl rfl rfl) ?_; clear S a; intro a S
 refine k_end (by kernel_rfl) ?_
 refine then_normal (st_if (t := 19) S rfl ?_ ?_)
 ·clear S; intro h19 S
  exfalso; omega
 clear S; intro h19 S
 refine st_condF S rfl (wp_skip (nxE (qY S (y_loadAgg (k := 273) (cs := _) S (by kernel_rfl) rfl (by with_reducible first | exact St.len hok _ | exact St.len zSt_ok _ | exact St.len (stX_ok _ _ _ _ hl) _) (M.cellsAt 1 rfl cutL_all)) ?_))); clear S a; intro a S
 refine qC (xs := [.tmp 22]) S (qE Tryz.func71) rfl (apart_any _ hok dv cs ps _ (hd _ [_, _] M) (by omega) hws) ?_
 rintro _ w6 ⟨dv2, rfl, lo2, hi2, cs2, es2, M2, hBk⟩; refine ⟨_, rfl, ?_⟩; clear S a; intro a S
 obtain ⟨da2, dc2, rfl, -, -⟩ := (M2.readRow 0 rfl (by unfold maxLen; omega)).form
 replace M := (M.join M2).perm (perm_preS (P := [_, _]))
 simp only [List.cons_append, List.nil_append] at M
 clear M2
 refine st_alloc S M rfl rfl (zSt.cellsL (.slice none 0 0)).toArray (by kernel_rfl) ?_; clear S M a; intro a w7 bW S M hB
 refine st_storeAll (sz := 273) S M 0 rfl (by kernel_rfl) rfl rfl (by with_reducible first | exact St.len hok _ | exact St.len zSt_ok _ | exact St.len (stX_ok _ _ _ _ hl) _) (by with_reducible first | exact St.one hok _ rfl | exact St.one zSt_ok _ rfl | exact St.one (stX_ok _ _ _ _ hl) _ rfl) rfl (by with_reducible first | exact St.len hok _ | exact St.len zSt_ok _ | exact St.len (stX_ok _ _ _ _ hl) _) ?_; clear M; intro w8 M
 simp only [List.set_cons_zero, List.set_cons_succ] at M
 refine nxA (qG [1, 1] S ?_); clear S a; intro a S
 refine qY S (y_load S (by kernel_rfl) rfl (M.cell 0 rfl (stX_gen _ _ _ _ _ _))) ?_; clear S a; intro a S
 (first | refine qY S (y_addN S rfl rfl (by omega)) ?_ | refine qY S (y_int S rfl rfl rfl) ?_); clear S a; intro a S
 refine qG [1, 1] S ?_; clear S a; intro a S
 refine st_store (sz := 1) (us := [_]) S M 0 rfl (by kernel_rfl) rfl rfl rfl rfl rfl rfl (by rw [St.len hok]; exact (by decide : 1 ≤ 273)) ?_; clear M; intro w9 M
 simp only [putL, List.set_cons_zero, List.set_cons_succ, Nat.reduceAdd] at M
 replace S := S.keep [0, 1, 3, 4, 5, 11, 19, 6]
 refine nxC (wp_seq ?_)
 rw [stX_set0] at M
 refine wp_region_lit (qG [14, 2] S ?_); clear S a; intro a S
 refine qY S (y_load S (by kernel_rfl) rfl (M.cell 2 rfl (stX_nxt _ _ _ _ _ _))) ?_; clear S a; intro a S
 refine qG [1, 2] S ?_; clear S a; intro a S
 refine st_store (sz := 1) (us := [_]) S M 0 rfl (by kernel_rfl) rfl rfl rfl rfl rfl rfl (by rw [St.len (stX_ok _ _ _ _ hl)]; exact (by decide : 2 ≤ 273)) ?_; clear M; intro w10 M
 simp only [putL, List.set_cons_zero, List.set_cons_succ, Nat.reduceAdd] at M
 refine nxC (wp_seq ?_)
 rw [stX_set1] at M
 refine wp_region_lit (qG [273] S ?_); clear S a; intro a S
 refine st_store (sz := 1) (us := [_]) S M 0 rfl (by kernel_rfl) rfl rfl rfl rfl rfl rfl (by rw [St.len (stX_ok _ _ _ _ hl)]; exact (by decide : 273 ≤ 273)) ?_; clear M; intro w11 M
 simp only [putL, List.set_cons_zero, List.set_cons_succ, Nat.reduceAdd] at M
 refine nxC (wp_seq ?_)
 rw [stX_set272 _ _ _ hl] at M
 refine wp_region_lit (qG [1] S ?_); clear S a; intro a S
 refine nxC (wp_seq (wp_label ?_))
 refine then_normal (wp_seq (wp_seq ?_))
 skip
 replace M := M.ord [1, 2, 3, 3] (by simp only [ordO, oG, oS, oE, oZ, oB] <;> rfl)
 refine wp_region_lit (qG [1] S ?_); clear S a; intro a S
 refine qC (xs := [.tmp 36, .tmp 6]) S (qE Tryz.func106) rfl (steps_any (H := _ :: _ :: (es2 ++ (A ++ E))) (ckSu x n) a9 n h 0 da2 dc2 cs2 ps es2 hl (by omega) hBk M) ?_
 rintro _ w12 ⟨b2, b3, ra, rc, rlo, rhi, fc, F, rfl, hSB, M1⟩; refine ⟨_, rfl, ?_⟩; clear S M a; intro a S
 replace M := M1.perm perm_goS
 clear M1
 refine qY S (y_lenS (E := 64) S rfl (by kernel_rfl)) ?_; clear S a; intro a S
 refine qG [1] S ?_; clear S a; intro a S
 refine nxC (wp_block (wp_loop_g (fun m a w' => ∃ (j : Nat) (E' : List Ent), j ≤ 12 + ps.length ∧ m = 12 + ps.length - j ∧ DkE bd (sv h ps (ckSu x n) j (S0, n)).1 E' ∧ Sees 59 a [(4, pB bZ), (6, pB bW), (7, .int .i64 0), (37, .slice ra (12 + ps.length) rc), (38, .int .i64 ((12 + ps.length : Nat) : Int)), (39, .int .i64 (j : Int))] ∧ Mem wc w' (.blk b2 #[pB bd] 38 :: .blk b3 #[pB bW] 196 :: stB bW (ckSu x n) a9 (sv h ps (ckSu x n) j (S0, n)).2 h 0 (.slice da2 ps.length dc2) :: ((F ++ (rowE rlo rhi 64 1 (.slice ra (12 + ps.length) rc) (12 + ps.length) fc :: rowE lo2 hi2 75 6 (.slice da2 ps.length dc2) ps.length cs2 :: stB bX x a9 n h k dv :: .blk bZ (zSt.cellsL (.slice none 0 0)).toArray 57 :: (es2 ++ A))) ++ E'))) (12 + ps.length) ?_ ?_))
 ·skip
  exact ⟨0, E, Nat.zero_le _, rfl, hE, S.sub _ rfl, M⟩
 clear S M a; intro m a wl
 rintro ⟨j, E', hj, rfl, hE', S, M⟩
 refine nxD (qG [1] S ?_); clear S a; intro a S
 refine nxC (wp_seq (st_fi (t := 40) S rfl ?_ ?_))
 ·clear S; intro h40 S
  refine st_condF S rfl (wp_exit (then_exit (then_exit (block_hit (then_normal (wp_seq (nxD (qG [1, 1] S ?_)))))))); clear S a; intro a S
  refine nxC (st_if (t := 49) S rfl ?_ ?_)
  ·clear S; intro h49 S
   exact absurd rfl h49
  clear S; intro h49 S
  refine st_condF S rfl (wp_skip (then_normal (wp_seq ?_)))
  obtain rfl : j = 12 + ps.length := by omega
  have M9 := M.sub sub_finS
  clear M; have M := M9; clear M9
  have hnn : (sv h ps (ckSu x n) (12 + ps.length) (S0, n)).2 = n + (wtP ps : Nat) := by
   rw [sv_n, List.take_of_length_le (by omega)]
  rw [hnn] at M
  refine wp_region_lit (qG [1, 2] S ?_); clear S a; intro a S
  refine qY S (y_load S (by kernel_rfl) rfl (M.cell 0 rfl (stX_tl _ _ _ _ _ _))) ?_; clear S a; intro a S
  refine qG [14, 1] S ?_; clear S a; intro a S
  refine st_store (sz := 1) (us := [_]) S M 0 rfl (by kernel_rfl) rfl rfl rfl rfl rfl rfl (by rw [St.len (stX_ok _ _ _ _ hl)]; exact (by decide : 14 ≤ 273)) ?_; clear M; intro w14 M
  simp only [putL, List.set_cons_zero, List.set_cons_succ, Nat.reduceAdd] at M
  refine nxC (wp_seq ?_)
  rw [stX_set13] at M
  refine wp_region_lit (qY S (y_loadAgg (k := 273) (cs := _) S (by kernel_rfl) rfl (by with_reducible first | exact St.len hok _ | exact St.len zSt_ok _ | exact St.len (stX_ok _ _ _ _ hl) _) (M.cellsAt 0 rfl cutL_all)) ?_); clear S a; intro a S
  refine st_storeAll (sz := 273) S M 2 rfl (by kernel_rfl) rfl rfl (by with_reducible first | exact St.len hok _ | exact St.len zSt_ok _ | exact St.len (stX_ok _ _ _ _ hl) _) (by with_reducible first | exact St.one hok _ rfl | exact St.one zSt_ok _ rfl | exact St.one (stX_ok _ _ _ _ hl) _ rfl) rfl (by with_reducible first | exact St.len hok _ | exact St.len zSt_ok _ | exact St.len (stX_ok _ _ _ _ hl) _) ?_; clear M; intro w15 M
  simp only [List.set_cons_zero, List.set_cons_succ] at M
  refine qG [1] S ?_; clear S a; intro a S
  refine nxC (wp_ret (sc_ret ?_))
  refine end_two S rfl (res_agg (k := 273) (cs := _) (by kernel_rfl) rfl (by with_reducible first | exact St.len hok _ | exact St.len zSt_ok _ | exact St.len (stX_ok _ _ _ _ hl) _) (M.cellsAt 2 rfl cutL_all)) (res_tmp rfl) ?_
  exact ⟨da2, dc2, lo2, hi2, cs2, es2, E', rfl, hE', hBk, M.sub (.cons _ (.cons_cons _ (.cons _ (List.Sublist.refl _))))⟩
 clear S; intro h40 S
 refine st_condT S rfl (wp_skip (then_normal (wp_seq (wp_block (wp_seq ?_)))))
 have hjl : j < fc.length := by rw [hSB.len]; omega
 obtain ⟨v, hv⟩ : ∃ v, fc[j]? = some v := ⟨_, List.getElem?_eq_getElem hjl⟩
 have hnle := sv_n_le (h := h) (ps := ps) (x := ckSu x n) (S0 := S0) (n := n) j
 have hnge := sv_n_ge (h := h) (ps := ps) (x := ckSu x n) (S0 := S0) (n := n) j
 have hlg' := hlg
 unfold mayL at hlg'
 obtain ⟨f, ca, rfl, hEn, hCall⟩ := stepJ_any (ckSu x n) a9 _ h 0 _ cs2 ps j v (hSB.get j v hv) hE' M ⟨by rw [sv_down]; exact hup, fun k => by have := sv_cache h (ckSu x n) (S0, n) hmq (c := 10000) hw j k; omega, hl, hmay, by unfold mayL; omega, by omega, hmq, fun i q he hq => by subst he; exact sv_room hq hroom⟩ hBk (fun e he => List.mem_cons_of_mem _ (List.mem_cons_of_mem _ (List.mem_cons_of_mem _ (List.mem_cons_of_mem _ (List.mem_append_left _ he)))))
 refine wp_region_lit (qY S (y_indexR (e := 64) (sz := 1) S (by kernel_rfl) rfl ((M.readIn (.tail _ (.tail _ (.tail _ (List.mem_append_left _ (List.mem_append_right _ (.head _)))))) (by unfold maxLen; omega))) rfl (by first | omega | (simp; done) | (simp; omega))) ?_); clear S a; intro a S
 try simp only [Int.toNat_natCast, Nat.mul_one, Nat.zero_add] at S
 refine qY S (y_load S (by kernel_rfl) rfl ((M.readIn (.tail _ (.tail _ (.tail _ (List.mem_append_left _ (List.mem_append_right _ (.head _)))))) (by unfold maxLen; omega)).at_.one j hv)) ?_; clear S a; intro a S
 refine qG [1] S ?_; clear S a; intro a S
 refine nxA (qG [1] S ?_); clear S a; intro a S
 refine st_callB (xs := []) (fi := []) (ca := ca) S (hEn) rfl rfl (rfl) rfl (hCall) ?_
 rintro _ w13 ⟨rfl, E2, hE2, M1⟩; refine ⟨_, rfl, ?_⟩; clear S M a hCall; intro a S; have M := M1; clear M1
 refine qG [1] S ?_; clear S a; intro a S
 refine nxA (qG [1, 1] S ?_); clear S a; intro a S
 refine nxC (st_if (t := 46) S rfl ?_ ?_)
 ·clear S; intro h46 S
  exact absurd rfl h46
 clear S; intro h46 S
 refine st_condF S rfl (wp_skip (block_normal (nxF ?_)))
 (first | refine qY S (y_addN S rfl rfl (by omega)) ?_ | refine qY S (y_int S rfl rfl rfl) ?_); clear S a; intro a S
 refine qG [1] S ?_; clear S a; intro a S
 refine nxC ?_
 exact ⟨12 + ps.length - (j + 1), by omega, j + 1, E2, by omega, rfl, hE2, S.sub _ rfl, M⟩
end Go.Proofs.YtndabhdepjnbcaaGreat

namespace Go.Proofs.YtndabhdepjnbcaaGreat
open Go.RowKit Go.Sort
structure Sh where
 x : Su
 a : Int
 n : Int
 h : List V8
 k : Int
 ps : Pl
abbrev Sh.st (s : Sh) : St := stX s.x s.a s.n s.h s.k
def shC (bd : Nat) (s : Sh) (dv : Value) : List Value := [pB bd] ++ (s.st.cellsL dv ++ [])
abbrev shE (b bd : Nat) (s : Sh) (dv : Value) : Ent := .blk b (shC bd s dv).toArray 82
def ShM (wc w : World) (A : List Ent) (b bd : Nat) (s : Sh) (S : DS) : Prop := ∃ (da : Option Addr) (dc lo hi : Nat) (cs : List Value) (es E : List Ent), DkE bd S E ∧ PrBk cs s.ps es ∧
 Mem wc w (shE b bd s (.slice da s.ps.length dc) :: rowE lo hi 75 6 (.slice da s.ps.length dc) s.ps.length cs :: (es ++ (A ++ E)))
def Sh.keep (s : Sh) (r : Rc) (x : List Wr) : Sh := ⟨{ s.x with owned := ownP s.x.owned s.ps r }, s.a, s.n + (nOf (r.enc x).length : Nat), onF s.h (stepO s.ps r x).2, IntKind.i64.wrap (s.k + 1), (stepO s.ps r x).1⟩
def Sh.keepD (s : Sh) (S : DS) (r : Rc) (x : List Wr) (fl : Bool) : DS := if fl = true then (putF S (cutF (r.enc x) s.n s.x.inc)).flush else putF S (cutF (r.enc x) s.n s.x.inc)
def Sh.save (s : Sh) : Sh := ⟨ckSu s.x s.n, s.n, s.n + (wtP s.ps : Nat), s.h, 0, s.ps⟩
def Sh.saveD (s : Sh) (S : DS) : DS := (sv s.h s.ps (ckSu s.x s.n) (12 + s.ps.length) (S, s.n)).1
structure ShI (S : DS) (s : Sh) (N : Int) : Prop where
 up : S.down = false
 cache : ∀ k, ((S.cache k).length : Int) ≤ 5 * N
 hl : s.h.length = 32
 mq : ∀ q ∈ s.ps, mayQ q
 may : s.x.may
 lg : mayL s.a s.n
 nx : s.n ≤ 20 * N
 gen : s.x.gen ≤ N
 few : N ≤ 1000
 w8 : wtP s.ps + s.ps.length ≤ 8
 room : s.n + ((wtP s.ps + s.ps.length : Nat) : Int) ≤ s.a + 24
theorem len1S (v : Value) : [v].length = 0 + 1 := rfl
theorem shC_len {bd : Nat} {s : Sh} {dv : Value} (hl : s.h.length = 32) : (shC bd s dv).length = 274 := by
 unfold shC; rw [List.length_append, List.length_append, St.len (stX_ok _ _ _ _ hl)]; rfl
theorem shC_inc (bd : Nat) (s : Sh) (dv : Value) : (shC bd s dv).toArray[4]? = some (.int .i64 s.x.inc) := rfl
theorem shC_d (bd : Nat) (s : Sh) (dv : Value) : (shC bd s dv).toArray[0]? = some (pB bd) := rfl
theorem shC_log (bd : Nat) (s : Sh) (dv : Value) : cutL (shC bd s dv).toArray.toList 14 2 = some [.int .i64 s.a, .int .i64 s.n] :=
 cutL_mid [pB bd, .int .i64 s.x.gen, .int .i64 s.x.tail, .int .i64 s.x.owned, .int .i64 s.x.inc, .int .i64 s.x.bound, .int .i64 s.x.m0, .int .i64 s.x.m1, .int .i64 s.x.m2, .int .i64 s.x.m3, .int .i64 s.x.m4, .int .i64 s.x.m5, .int .i64 s.x.m6, .int .i64 s.x.m7] [.int .i64 s.a, .int .i64 s.n] ((hcells s.h ++ [dv, .int .i64 s.k]) ++ [])
theorem shC_doubt {bd : Nat} {s : Sh} {dv : Value} (hl : s.h.length = 32) : (shC bd s dv).toArray[272]? = some dv := by
 have h := St.doubt (stX_ok s.x s.a s.n s.k hl) dv
 rw [List.getElem?_toArray] at h ⊢
 unfold shC
 rw [List.getElem?_append_right (by show 1 ≤ 272; omega)]
 show ((s.st.cellsL dv ++ []))[271]? = _
 rw [List.append_nil]; exact h
theorem shC_put {bd : Nat} {s s' : Sh} {dv dv' : Value} (hl : s.h.length = 32) (hl' : s'.h.length = 32) : putL (shC bd s dv) 1 (s'.st.cellsL dv') = shC bd s' dv' := by
 have l1 : (s.st.cellsL dv).length = 273 := St.len (stX_ok _ _ _ _ hl) _
 have l2 : (s'.st.cellsL dv').length = 273 := St.len (stX_ok _ _ _ _ hl') _
 rw [putL_eq _ _ _ (by rw [shC_len hl, l2]; exact Nat.le_refl _), l2, List.drop_of_length_le (by rw [shC_len hl]; exact Nat.le_refl _)]
 unfold shC
 rw [List.append_nil, List.append_nil, List.append_nil]; rfl
theorem DoubtRd {wc w : World} {A E es pre : List Ent} {lo hi : Nat} {da : Option Addr} {dc : Nat} {cs : List Value} {ps : Pl} (hB : PrBk cs ps es) (hps : ps.length ≤ 1000) (M : Mem wc w (pre ++ (rowE lo hi 75 6 (.slice da ps.length dc) ps.length cs :: (es ++ (A ++ E))))) : PrsC cs 0 w.heap.size w (.slice da ps.length dc) ps :=
 (hB.prs M (List.mem_append_right _ (.head _)) (fun e he => List.mem_append_right _ (.tail _ (List.mem_append_left _ he))) (by unfold maxLen; omega)).wide (Nat.zero_le _) (Nat.le_refl _)
theorem save_perm {α : Type} {X D D2 : α} {P es es2 A E : List α} : (D2 :: (es2 ++ ((P ++ (X :: D :: (es ++ A))) ++ E))).Perm (P ++ (X :: D2 :: ((es2 ++ (A ++ E)) ++ (D :: es)))) := by
 have e : (P ++ (X :: D :: (es ++ A))) ++ E = (P ++ [X]) ++ (D :: (es ++ (A ++ E))) := by simp
 have e2 : P ++ (X :: D2 :: ((es2 ++ (A ++ E)) ++ (D :: es))) = (P ++ [X]) ++ (D2 :: ((es2 ++ (A ++ E)) ++ (D :: es))) := by simp
 rw [e, e2]
 refine perm_preS.trans (List.Perm.append_left _ (List.Perm.cons _ ?_))
 rw [List.append_assoc]
 refine List.Perm.append_left es2 ?_
 have e3 : D :: (es ++ (A ++ E)) = (D :: es) ++ (A ++ E) := rfl
 rw [e3]
 exact List.perm_append_comm
set_option maxHeartbeats 1000000 in
set_option maxRecDepth 10000 in
theorem saveS_any {wc w : World} {A : List Ent} {b bd : Nat} {s : Sh} {S0 : DS} {N : Int} (hM : ShM wc w A b bd s S0) (hI : ShI S0 s N) :
 Calls Tryz.prog 35 #[pB b] w fun e w' => e = .returned (.int .i64 0) ∧ ShM wc w' A b bd s.save (s.saveD S0) := by
 obtain ⟨da, dc, lo, hi, cs, es, E, hE, hBk, M⟩ := hM
 obtain ⟨hup, hca, hl, hmq, hmay, hlg, hnx, hgen, hfew, hw8, hroom⟩ := hI
 have hps : s.ps.length ≤ 8 := by omega
 have hok := stX_ok s.x s.a s.n s.k hl
 have hlg' := hlg
 unfold mayL at hlg'
 have hmay2 : (ckSu s.x s.n).may := by
  obtain ⟨h0, h1, h2, h3, h4, h5, h6, h7, h8, h9, h10⟩ := hmay
  refine ⟨h0, ?_⟩
  simp only [ckSu]; omega
 have hl2 : s.save.h.length = 32 := hl
 have hok2 : s.save.st.ok := stX_ok _ _ _ _ hl2
 refine calls_enter Tryz.func35 rfl 24 rfl rfl ?_; intro a S
 refine wp_seq ?_
 skip
 refine wp_region_lit (qG [1] S ?_); clear S a; intro a S
 refine nxC (wp_cut (fun a w' => ∃ (bZ : Nat) (da2 : Option Addr) (dc2 lo2 hi2 : Nat) (cs2 : List Value) (es2 E2 : List Ent), DkE bd (s.saveD S0) E2 ∧ PrBk cs2 s.ps es2 ∧ Sees 24 a [(0, pB b), (3, pB bZ), (4, .int .i64 0)] ∧ Mem wc w' (.blk bZ (s.save.st.cellsL (.slice da2 s.ps.length dc2)).toArray 57 :: shE b bd s (.slice da s.ps.length dc) :: rowE lo2 hi2 75 6 (.slice da2 s.ps.length dc2) s.ps.length cs2 :: ((es2 ++ (A ++ E2)) ++ (rowE lo hi 75 6 (.slice da s.ps.length dc) s.ps.length cs :: es)))) ?_ ?_)
 ·skip
  refine wp_regionK [8, 13] #[false, false, false, false, false, false, false, false, false, false, false, false, false, false, false] rfl M (by kernel_rfl) ?_; clear M; intro w1 M
  refine k_pure 0 S rfl (fun w => y_move S rfl) ?_; clear S a; intro a S
  refine k_pure 1 S rfl (fun w => y_nilCheck S rfl) ?_; clear S a; intro a S
  refine k_pure 2 S rfl (fun w => y_fieldAddr (k := 0) S (by kernel_rfl) rfl) ?_; clear S a; intro a S
  refine k_read 3 S rfl (fun w hW => have M := M.grow hW; y_load S (by kernel_rfl) rfl (M.cell 0 rfl (shC_d _ _ _))) ?_; clear S a; intro a S
  refine k_pure 4 S rfl (fun w => y_move S rfl) ?_; clear S a; intro a S
  refine k_pure 5 S rfl (fun w => y_nilCheck S rfl) ?_; clear S a; intro a S
  refine k_pure 6 S rfl (fun w => y_fieldAddr (k := 1) S (by kernel_rfl) rfl) ?_; clear S a; intro a S
  refine k_read 7 S rfl (fun w hW => have M := M.grow hW; y_loadAgg (k := 273) S (by kernel_rfl) rfl (by with_reducible first | exact St.len hok _ | exact St.len hok2 _ | exact St.len zSt_ok _ | exact shC_len hl | exact St.len (stX_ok _ _ _ _ hl) _ | exact len1S _) (M.cellsMid 0 rfl (by with_reducible first | exact St.len hok _ | exact St.len hok2 _ | exact St.len zSt_ok _ | exact shC_len hl | exact St.len (stX_ok _ _ _ _ hl) _ | exact len1S _))) ?_; clear S a; intro a S
  refine k_two 8 12 rfl rfl (by kernel_rfl) ?_ ?_
  ·skip
   refine qC (xs := [.tmp 9, .tmp 13]) S (qE Tryz.func59) rfl (save9_any (A :=  _ :: _ :: (es ++ A)) s.x s.a s.n s.h s.k (.slice da s.ps.length dc) cs s.ps hE (by simpa only [List.cons_append, List.append_assoc] using M) (fun W H' M9 => DoubtRd (A := A) (E := E) (pre := H' ++  [_]) hBk (by omega) (by simpa only [List.cons_append, List.nil_append, List.append_assoc] using M9)) (by omega) (fun i q hq => by have := hmq q (List.mem_of_getElem? hq); exact hBk.short i q hq) hup (fun k => by have := hca k; omega) hl hmq hlg (by omega) hmay2 (by have := hmay.2.1; omega) (by omega)) ?_
   rintro _ w2 ⟨da2, dc2, lo2, hi2, cs2, es2, E2, rfl, hE2, hBk2, M1⟩; refine ⟨_, rfl, ?_⟩; clear S M a; intro a S
   have M := M1.perm (save_perm (P :=  []))
   clear M1
   simp only [List.cons_append, List.nil_append] at M
   refine wpList_nil ?_; refine then_normal ?_; refine ⟨fun h => absurd h (by decide), ?_⟩
   refine k_pure 9 S rfl (fun w => y_move S rfl) ?_; clear S a; intro a S
   refine k_pure 10 S rfl (fun w => y_extract S rfl rfl) ?_; clear S a; intro a S
   refine k_pure 11 S rfl (fun w => y_extract S rfl rfl) ?_; clear S a; intro a S
   refine k_one 12 rfl (by kernel_rfl) ?_
   refine st_alloc S M rfl rfl (zSt.cellsL (.slice none 0 0)).toArray (by kernel_rfl) ?_; clear S M a; intro a w3 bZ S M hB
   refine wpList_nil ?_; refine then_normal ?_; refine ⟨fun _ => hB, ?_⟩
   refine k_one 13 rfl (by kernel_rfl) ?_
   refine st_storeAll (sz := 273) S M 0 rfl (by kernel_rfl) rfl rfl (by with_reducible first | exact St.len hok _ | exact St.len hok2 _ | exact St.len zSt_ok _ | exact shC_len hl | exact St.len (stX_ok _ _ _ _ hl) _ | exact len1S _) (by with_reducible first | exact St.one hok _ rfl | exact St.one hok2 _ rfl | exact St.one zSt_ok _ rfl | exact St.one (stX_ok _ _ _ _ hl) _ rfl) rfl (by with_reducible first | exact St.len hok _ | exact St.len hok2 _ | exact St.len zSt_ok _ | exact shC_len hl | exact St.len (stX_ok _ _ _ _ hl) _ | exact len1S _) ?_; clear M; intro w4 M
   simp only [List.set_cons_zero, List.set_cons_succ] at M
   refine wpList_nil ?_; refine then_normal ?_; refine ⟨fun h => absurd h (by decide), ?_⟩
   refine k_pure 14 S rfl (fun w => y_assign S rfl) ?_; clear S a; intro a S
   refine k_end (by kernel_rfl) ?_
   refine then_normal ?_
   skip
   replace M := M.ord [2, 2, 2] (by simp only [ordO, oG, oS, oE, oZ, oB] <;> rfl)
   exact ⟨_, da2, dc2, lo2, hi2, cs2, es2, E2, hE2, hBk2, S.sub _ rfl, M⟩
  ·skip
   refine st_alloc S M rfl rfl (zSt.cellsL (.slice none 0 0)).toArray (by kernel_rfl) ?_; clear S M a; intro a w5 bZ S M hB
   refine wpList_nil ?_; refine then_normal ?_; refine ⟨fun _ => hB, ?_⟩
   refine k_one 8 rfl (by kernel_rfl) ?_
   refine qC (xs := [.tmp 9, .tmp 13]) S (qE Tryz.func59) rfl (save9_any (A := _ ::  _ :: _ :: (es ++ A)) s.x s.a s.n s.h s.k (.slice da s.ps.length dc) cs s.ps hE (by simpa only [List.cons_append, List.append_assoc] using M) (fun W H' M9 => DoubtRd (A := A) (E := E) (pre := H' ++ _ ::  [_]) hBk (by omega) (by simpa only [List.cons_append, List.nil_append, List.append_assoc] using M9)) (by omega) (fun i q hq => by have := hmq q (List.mem_of_getElem? hq); exact hBk.short i q hq) hup (fun k => by have := hca k; omega) hl hmq hlg (by omega) hmay2 (by have := hmay.2.1; omega) (by omega)) ?_
   rintro _ w6 ⟨da2, dc2, lo2, hi2, cs2, es2, E2, rfl, hE2, hBk2, M1⟩; refine ⟨_, rfl, ?_⟩; clear S M a; intro a S
   have M := M1.perm (save_perm (P := _ ::  []))
   clear M1
   simp only [List.cons_append, List.nil_append] at M
   refine wpList_nil ?_; refine then_normal ?_; refine ⟨fun h => absurd h (by decide), ?_⟩
   refine k_pure 9 S rfl (fun w => y_move S rfl) ?_; clear S a; intro a S
   refine k_pure 10 S rfl (fun w => y_extract S rfl rfl) ?_; clear S a; intro a S
   refine k_pure 11 S rfl (fun w => y_extract S rfl rfl) ?_; clear S a; intro a S
   refine k_one 13 rfl (by kernel_rfl) ?_
   refine st_storeAll (sz := 273) S M 0 rfl (by kernel_rfl) rfl rfl (by with_reducible first | exact St.len hok _ | exact St.len hok2 _ | exact St.len zSt_ok _ | exact shC_len hl | exact St.len (stX_ok _ _ _ _ hl) _ | exact len1S _) (by with_reducible first | exact St.one hok _ rfl | exact St.one hok2 _ rfl | exact St.one zSt_ok _ rfl | exact St.one (stX_ok _ _ _ _ hl) _ rfl) rfl (by with_reducible first | exact St.len hok _ | exact St.len hok2 _ | exact St.len zSt_ok _ | exact shC_len hl | exact St.len (stX_ok _ _ _ _ hl) _ | exact len1S _) ?_; clear M; intro w7 M
   simp only [List.set_cons_zero, List.set_cons_succ] at M
   refine wpList_nil ?_; refine then_normal ?_; refine ⟨fun h => absurd h (by decide), ?_⟩
   refine k_pure 14 S rfl (fun w => y_assign S rfl) ?_; clear S a; intro a S
   refine k_end (by kernel_rfl) ?_
   refine then_normal ?_
   skip
   replace M := M.ord [2, 2, 2] (by simp only [ordO, oG, oS, oE, oZ, oB] <;> rfl)
   exact ⟨_, da2, dc2, lo2, hi2, cs2, es2, E2, hE2, hBk2, S.sub _ rfl, M⟩
 clear S a M; intro a wc
 rintro ⟨bZ, da2, dc2, lo2, hi2, cs2, es2, E2, hE2, hBk2, S, M⟩
 refine wp_seq (nxD (qG [1, 1] S ?_)); clear S a; intro a S
 refine nxC (st_if (t := 18) S rfl ?_ ?_)
 ·clear S; intro h18 S
  exact absurd rfl h18
 clear S; intro h18 S
 refine st_condF S rfl (wp_skip (nxE (qG [1] S ?_))); clear S a; intro a S
 refine qY S (y_loadAgg (k := 273) (cs := _) S (by kernel_rfl) rfl (by with_reducible first | exact St.len hok _ | exact St.len hok2 _ | exact St.len zSt_ok _ | exact shC_len hl | exact St.len (stX_ok _ _ _ _ hl) _ | exact len1S _) (M.cellsAt 0 rfl cutL_all)) ?_; clear S a; intro a S
 refine qG [1, 2] S ?_; clear S a; intro a S
 refine st_store (o := 1) (sz := 273) (us := s.save.st.cellsL (.slice da2 s.ps.length dc2)) S M 1 rfl (by kernel_rfl) rfl rfl rfl (St.len hok2 _) (St.one hok2 _ rfl) rfl (by rw [shC_len hl, St.len hok2]; exact Nat.le_refl _) ?_; clear M; intro wz M
 simp only [List.set_cons_zero, List.set_cons_succ] at M
 rw [shC_put hl hl2] at M
 refine nxA (qG [1] S ?_); clear S a; intro a S
 refine nxC (wp_ret (end_one S rfl (res_tmp rfl) ?_))
 exact ⟨rfl, da2, dc2, lo2, hi2, cs2, es2, E2, hE2, hBk2, M.sub (.cons _ (.cons_cons _ (.cons_cons _ (List.sublist_append_left _ _))))⟩
end Go.Proofs.YtndabhdepjnbcaaGreat

namespace Go.Proofs.YtndabhdepjnbcaaGreat
open Go.RowKit Go.Sort
def Sh.app (s : Sh) (r : Rc) (x : List Wr) : Sh := ⟨{ s.x with owned := ownP s.x.owned s.ps r }, s.a, s.n, onF s.h (stepO s.ps r x).2, IntKind.i64.wrap (s.k + 1), (stepO s.ps r x).1⟩
set_option maxHeartbeats 1000000 in
set_option maxRecDepth 10000 in
theorem keepS_any {wc w : World} {A : List Ent} {b bd : Nat} {s : Sh} {S0 : DS} {N : Int} (r : Rc) (va : Option Addr) (vc : Nat) (x : List Wr) (fl : Bool) (hM : ShM wc w A b bd s S0) (hI : ShI S0 s N) (hs : r.shards ≤ 9223372036854775807) (hW : ∀ W, Mem wc W A → Ws 0 W.heap.size W (.slice va x.length vc) x) (hx : x.length ≤ 1000000)
 (htk : takes r x = true) (hm : r.may x = true) (hroom : s.n + (nOf (r.enc x).length : Nat) ≤ s.a + 24) :
 Calls Tryz.prog 33 #[pB b, .agg (r.cells (.slice va x.length vc)), .bool fl] w fun e w' => e = .returned (.int .i64 0) ∧ ShM wc w' A b bd (s.keep r x) (s.keepD S0 r x fl) := by
 obtain ⟨da, dc, lo, hi, cs, es, E, hE, hBk, M⟩ := hM
 obtain ⟨hup, hca, hl, hmq, hmay, hlg, hnx, hgen, hfew, hw8, hrm⟩ := hI
 have hps : s.ps.length ≤ 8 := by omega
 have hok := stX_ok s.x s.a s.n s.k hl
 have hlA : (s.app r x).h.length = 32 := by show (onF _ _).length = 32; rw [onF_length]; exact hl
 have hokA : (s.app r x).st.ok := stX_ok _ _ _ _ hlA
 have hlK : (s.keep r x).h.length = 32 := hlA
 have hokK : (s.keep r x).st.ok := stX_ok _ _ _ _ hlK
 have hlg' := hlg
 unfold mayL at hlg'
 have hinc : 0 ≤ s.x.inc ∧ s.x.inc ≤ 1048576 := ⟨hmay.2.2.2.2.2.2.2.1, hmay.2.2.2.2.2.2.2.2.1⟩
 have hel := enc_len hm
 have hsl := stepP_len s.ps r x
 have hA : ∀ W H9, Mem wc W (H9 ++ (es ++ (A ++ E))) → Ws 0 W.heap.size W (.slice va x.length vc) x := fun W H9 M9 => hW W (M9.sub (((List.sublist_append_left A E).trans (List.sublist_append_right es _)).trans (List.sublist_append_right H9 _)))
 refine calls_enter Tryz.func33 rfl 67 rfl rfl ?_; intro a S
 refine wp_seq ?_
 skip
 refine wp_region_lit (st_box S M rfl rfl rfl #[_, _, _, _, _, _, _, _, _, _, _, _] rfl ?_); clear S M a; intro a w1 bRr S M hB
 refine qG [1] S ?_; clear S a; intro a S
 refine nxA (qY S (y_loadAgg (cs := [_, _, _, _, _, _, _, _, _, _, _, _]) S (by kernel_rfl) rfl rfl (M.cellsAt (k := 12) 0 rfl rfl)) ?_); clear S a; intro a S
 refine qC (xs := [.tmp 11]) S (qE Tryz.func54) rfl (bytesR_any r va x.length vc x _ hs (hA _ [_, _, _] M)) ?_
 rintro _ w2 ⟨v1, rfl, hK, hF, -⟩; refine ⟨_, rfl, ?_⟩; clear S a; intro a S
 have hF := hF hm
 rw [if_pos hm] at S
 obtain ⟨lo3, hi3, -, M1⟩ := M.pushFresh hF; clear M; have M := M1; clear M1
 refine qG [1, 1, 1, 1, 1] S ?_; clear S a; intro a S
 refine nxC (wp_seq (nxD (qG [1, 1] S ?_))); clear S a; intro a S
 refine nxC (st_if (t := 16) S rfl ?_ ?_)
 ·clear S; intro h16 S
  exact absurd rfl h16
 clear S; intro h16 S
 refine st_condF S rfl (wp_skip (then_normal (wp_cut (fun a w' => ∃ (bZ bRr : Nat) (da2 : Option Addr) (dc2 lo2 hi2 : Nat) (cs2 : List Value) (es2 : List Ent), PrBk cs2 (s.app r x).ps es2 ∧ Sees 67 a [(0, pB b), (2, .bool fl), (7, v1), (9, pB bZ), (8, .int .i64 0)] ∧ Mem wc w' (.blk bZ ((s.app r x).st.cellsL (.slice da2 (s.app r x).ps.length dc2)).toArray 57 :: rowE lo3 hi3 5 1 v1 (r.enc x).length (bcells (r.enc x)) :: .blk bRr (r.cells (.slice va x.length vc)) 30 :: shE b bd s (.slice da s.ps.length dc) :: rowE lo hi 75 6 (.slice da s.ps.length dc) s.ps.length cs :: rowE lo2 hi2 75 6 (.slice da2 (s.app r x).ps.length dc2) (s.app r x).ps.length cs2 :: (es2 ++ (es ++ (A ++ E))))) ?_ ?_)))
 ·skip
  refine wp_regionK [10] #[false, false, false, false, false, false, false, false, false, false, false, false] rfl M (by kernel_rfl) ?_; clear M; intro w3 M
  refine k_pure 0 S rfl (fun w => y_move S rfl) ?_; clear S a; intro a S
  refine k_pure 1 S rfl (fun w => y_nilCheck S rfl) ?_; clear S a; intro a S
  refine k_pure 2 S rfl (fun w => y_fieldAddr (k := 1) S (by kernel_rfl) rfl) ?_; clear S a; intro a S
  refine k_read 3 S rfl (fun w hW => have M := M.grow hW; y_loadAgg (k := 273) S (by kernel_rfl) rfl (by with_reducible first | exact St.len hok _ | exact St.len hokA _ | exact St.len hokK _ | exact St.len zSt_ok _ | exact shC_len hl | exact len1S _) (M.cellsMid 2 rfl (by with_reducible first | exact St.len hok _ | exact St.len hokA _ | exact St.len hokK _ | exact St.len zSt_ok _ | exact shC_len hl | exact len1S _))) ?_; clear S a; intro a S
  refine k_read 4 S rfl (fun w hW => have M := M.grow hW; y_loadAgg (cs := [_, _, _, _, _, _, _, _, _, _, _, _]) S (by kernel_rfl) rfl rfl (M.cellsAt (k := 12) 1 rfl rfl)) ?_; clear S a; intro a S
  refine k_two 5 9 rfl rfl (by kernel_rfl) ?_ ?_
  ·skip
   refine qC (xs := [.tmp 22, .tmp 23]) S (qE Tryz.func41) rfl (apply_any s.st hok (.slice da s.ps.length dc) cs s.ps _ (DoubtRd (A := A) (E := E) (pre := _ :: _ :: _ ::  []) hBk (by omega) M) (by omega) hBk.short r va vc x (hA _ (_ :: _ :: _ ::  [_]) M) hx hs) ?_
   rintro _ w4 hAp; obtain ⟨s2, ps2, c2, da2, dc2, lo2, hi2, cs2, es2, rfl, hs2, M2, hBk2, hc2⟩ := apply_form hAp (by omega); refine ⟨_, rfl, ?_⟩; clear S a hAp; intro a S; have hK := M2.below
   obtain ⟨rfl, rfl, rfl⟩ : c2 = 0 ∧ s2 = (s.app r x).st ∧ ps2 = (s.app r x).ps := by
    rcases hc2 with ⟨-, h1, h2, h3⟩ | ⟨h1, -⟩
    ·exact ⟨h1, h2, h3⟩
    ·rw [htk] at h1; cases h1
   have M1 := (M.join M2).perm (perm_preS (P := _ :: _ :: _ ::  [_]))
   clear M; have M := M1; clear M1 M2
   simp only [List.cons_append, List.nil_append] at M
   refine wpList_nil ?_; refine then_normal ?_; refine ⟨fun _ => hK, ?_⟩
   refine k_pure 6 S rfl (fun w => y_move S rfl) ?_; clear S a; intro a S
   refine k_pure 7 S rfl (fun w => y_extract S rfl rfl) ?_; clear S a; intro a S
   refine k_pure 8 S rfl (fun w => y_extract S rfl rfl) ?_; clear S a; intro a S
   refine k_one 9 rfl (by kernel_rfl) ?_
   refine st_alloc S M rfl rfl (zSt.cellsL (.slice none 0 0)).toArray (by kernel_rfl) ?_; clear S M a; intro a w5 bZ S M hB
   refine wpList_nil ?_; refine then_normal ?_; refine ⟨fun _ => hB, ?_⟩
   refine k_one 10 rfl (by kernel_rfl) ?_
   refine st_storeAll (sz := 273) S M 0 rfl (by kernel_rfl) rfl rfl (by with_reducible first | exact St.len hok _ | exact St.len hokA _ | exact St.len hokK _ | exact St.len zSt_ok _ | exact shC_len hl | exact len1S _) (by with_reducible first | exact St.one hok _ rfl | exact St.one hokA _ rfl | exact St.one hokK _ rfl | exact St.one zSt_ok _ rfl) rfl (by with_reducible first | exact St.len hok _ | exact St.len hokA _ | exact St.len hokK _ | exact St.len zSt_ok _ | exact shC_len hl | exact len1S _) ?_; clear M; intro w6 M
   simp only [List.set_cons_zero, List.set_cons_succ] at M
   refine wpList_nil ?_; refine then_normal ?_; refine ⟨fun h => absurd h (by decide), ?_⟩
   refine k_pure 11 S rfl (fun w => y_assign S rfl) ?_; clear S a; intro a S
   refine k_end (by kernel_rfl) ?_
   replace S := S.keep [0, 1, 2, 4, 6, 7, 16, 9, 8]
   refine then_normal ?_
   skip
   replace M := M.ord [4, 4, 4, 4, 4] (by simp only [ordO, oG, oS, oE, oZ, oB] <;> rfl)
   exact ⟨_, _, da2, dc2, lo2, hi2, cs2, es2, hBk2, S.sub _ rfl, M⟩
  ·skip
   refine st_alloc S M rfl rfl (zSt.cellsL (.slice none 0 0)).toArray (by kernel_rfl) ?_; clear S M a; intro a w7 bZ S M hB
   refine wpList_nil ?_; refine then_normal ?_; refine ⟨fun _ => hB, ?_⟩
   refine k_one 5 rfl (by kernel_rfl) ?_
   refine qC (xs := [.tmp 22, .tmp 23]) S (qE Tryz.func41) rfl (apply_any s.st hok (.slice da s.ps.length dc) cs s.ps _ (DoubtRd (A := A) (E := E) (pre := _ :: _ :: _ :: _ ::  []) hBk (by omega) M) (by omega) hBk.short r va vc x (hA _ (_ :: _ :: _ :: _ ::  [_]) M) hx hs) ?_
   rintro _ w8 hAp; obtain ⟨s2, ps2, c2, da2, dc2, lo2, hi2, cs2, es2, rfl, hs2, M2, hBk2, hc2⟩ := apply_form hAp (by omega); refine ⟨_, rfl, ?_⟩; clear S a hAp; intro a S; have hK := M2.below
   obtain ⟨rfl, rfl, rfl⟩ : c2 = 0 ∧ s2 = (s.app r x).st ∧ ps2 = (s.app r x).ps := by
    rcases hc2 with ⟨-, h1, h2, h3⟩ | ⟨h1, -⟩
    ·exact ⟨h1, h2, h3⟩
    ·rw [htk] at h1; cases h1
   have M1 := (M.join M2).perm (perm_preS (P := _ :: _ :: _ :: _ ::  [_]))
   clear M; have M := M1; clear M1 M2
   simp only [List.cons_append, List.nil_append] at M
   refine wpList_nil ?_; refine then_normal ?_; refine ⟨fun _ => hK, ?_⟩
   refine k_pure 6 S rfl (fun w => y_move S rfl) ?_; clear S a; intro a S
   refine k_pure 7 S rfl (fun w => y_extract S rfl rfl) ?_; clear S a; intro a S
   refine k_pure 8 S rfl (fun w => y_extract S rfl rfl) ?_; clear S a; intro a S
   refine k_one 10 rfl (by kernel_rfl) ?_
   refine st_storeAll (sz := 273) S M 0 rfl (by kernel_rfl) rfl rfl (by with_reducible first | exact St.len hok _ | exact St.len hokA _ | exact St.len hokK _ | exact St.len zSt_ok _ | exact shC_len hl | exact len1S _) (by with_reducible first | exact St.one hok _ rfl | exact St.one hokA _ rfl | exact St.one hokK _ rfl | exact St.one zSt_ok _ rfl) rfl (by with_reducible first | exact St.len hok _ | exact St.len hokA _ | exact St.len hokK _ | exact St.len zSt_ok _ | exact shC_len hl | exact len1S _) ?_; clear M; intro w9 M
   simp only [List.set_cons_zero, List.set_cons_succ] at M
   refine wpList_nil ?_; refine then_normal ?_; refine ⟨fun h => absurd h (by decide), ?_⟩
   refine k_pure 11 S rfl (fun w => y_assign S rfl) ?_; clear S a; intro a S
   refine k_end (by kernel_rfl) ?_
   replace S := S.keep [0, 1, 2, 4, 6, 7, 16, 9, 8]
   refine then_normal ?_
   skip
   replace M := M.ord [4, 4, 4, 4, 4] (by simp only [ordO, oG, oS, oE, oZ, oB] <;> rfl)
   exact ⟨_, _, da2, dc2, lo2, hi2, cs2, es2, hBk2, S.sub _ rfl, M⟩
 clear S a M; intro a wc
 rintro ⟨bZ, bRr, da2, dc2, lo2, hi2, cs2, es2, hBk2, S, M⟩
 refine wp_seq (nxD (qG [1, 1] S ?_)); clear S a; intro a S
 refine nxC (st_if (t := 28) S rfl ?_ ?_)
 ·clear S; intro h28 S
  exact absurd rfl h28
 clear S; intro h28 S
 refine st_condF S rfl (wp_skip (then_normal (wp_seq (wp_seq (wp_regionK [16, 21] #[false, false, false, false, false, false, false, false, false, false, false, false, false, false, false, false, false, false, false, false, false, false, false] rfl M (by kernel_rfl) ?_))))); clear M; intro w10 M
 refine k_pure 0 S rfl (fun w => y_move S rfl) ?_; clear S a; intro a S
 refine k_pure 1 S rfl (fun w => y_nilCheck S rfl) ?_; clear S a; intro a S
 refine k_pure 2 S rfl (fun w => y_fieldAddr (k := 0) S (by kernel_rfl) rfl) ?_; clear S a; intro a S
 refine k_read 3 S rfl (fun w hW => have M := M.grow hW; y_load S (by kernel_rfl) rfl (M.cell 3 rfl (shC_d _ _ _))) ?_; clear S a; intro a S
 refine k_pure 4 S rfl (fun w => y_move S rfl) ?_; clear S a; intro a S
 refine k_pure 5 S rfl (fun w => y_nilCheck S rfl) ?_; clear S a; intro a S
 refine k_pure 6 S rfl (fun w => y_fieldAddr (k := 1) S (by kernel_rfl) rfl) ?_; clear S a; intro a S
 refine k_pure 7 S rfl (fun w => y_fieldAddr (k := 13) S (by kernel_rfl) rfl) ?_; clear S a; intro a S
 refine k_read 8 S rfl (fun w hW => have M := M.grow hW; y_loadAgg (cs := [_, _]) S (by kernel_rfl) rfl rfl (M.cellsAt (k := 2) 3 rfl (shC_log _ _ _))) ?_; clear S a; intro a S
 refine k_pure 9 S rfl (fun w => y_move S rfl) ?_; clear S a; intro a S
 refine k_pure 10 S rfl (fun w => y_nilCheck S rfl) ?_; clear S a; intro a S
 refine k_pure 11 S rfl (fun w => y_fieldAddr (k := 1) S (by kernel_rfl) rfl) ?_; clear S a; intro a S
 refine k_pure 12 S rfl (fun w => y_fieldAddr (k := 0) S (by kernel_rfl) rfl) ?_; clear S a; intro a S
 refine k_pure 13 S rfl (fun w => y_fieldAddr (k := 3) S (by kernel_rfl) rfl) ?_; clear S a; intro a S
 refine k_read 14 S rfl (fun w hW => have M := M.grow hW; y_load S (by kernel_rfl) rfl (M.cell 3 rfl (shC_inc _ _ _))) ?_; clear S a; intro a S
 refine k_pure 15 S rfl (fun w => y_move S rfl) ?_; clear S a; intro a S
 refine k_one 16 rfl (by kernel_rfl) ?_
 refine qC (xs := [.tmp 34, .tmp 39, .tmp 45, .tmp 46]) S (qE Tryz.func55) rfl (append_any (A := _ :: _ :: _ :: _ :: _ ::  _ :: (es2 ++ (es ++ A))) s.a s.n s.x.inc v1 (r.enc x) hE (by simpa only [List.cons_append, List.append_assoc] using M) (fun W M9 => M9.readAll 1 rfl (by unfold maxLen; omega)) hup hlg (by omega) hinc (fun k => by have := hca k; omega)) ?_
 rintro _ w11 ⟨n', er, S2, rfl, hP, E2, hE2, M1⟩; refine ⟨_, rfl, ?_⟩; clear S M a; intro a S; have M := M1; clear M1
 obtain ⟨rfl, rfl, rfl⟩ : n' = s.n + (nOf (r.enc x).length : Nat) ∧ er = 0 ∧ S2 = putF S0 (cutF (r.enc x) s.n s.x.inc) := by
  rcases hP with ⟨-, h1, h2, h3⟩ | ⟨h1, -⟩
  ·exact ⟨h1, h2, h3⟩
  ·exact absurd ⟨fun e => by rw [e] at hel; simp at hel, hel.2, by omega⟩ h1
 simp only [List.cons_append, List.append_assoc] at M
 refine wpList_nil ?_; refine then_normal ?_; refine ⟨fun h => absurd h (by decide), ?_⟩
 refine k_pure 17 S rfl (fun w => y_move S rfl) ?_; clear S a; intro a S
 refine k_pure 18 S rfl (fun w => y_extract S rfl rfl) ?_; clear S a; intro a S
 refine k_pure 19 S rfl (fun w => y_extract S rfl rfl) ?_; clear S a; intro a S
 refine k_pure 20 S rfl (fun w => y_fieldAddr (k := 13) S (by kernel_rfl) rfl) ?_; clear S a; intro a S
 refine k_one 21 rfl (by kernel_rfl) ?_
 refine st_store (sz := 2) (us := [_, _]) S M 0 rfl (by kernel_rfl) rfl rfl rfl rfl rfl rfl (by rw [St.len hokA]; exact (by decide : 15 ≤ 273)) ?_; clear M; intro w12 M
 simp only [putL, List.set_cons_zero, List.set_cons_succ, Nat.reduceAdd] at M
 refine wpList_nil ?_; refine then_normal ?_; refine ⟨fun h => absurd h (by decide), ?_⟩
 refine k_pure 22 S rfl (fun w => y_assign S rfl) ?_; clear S a; intro a S
 refine k_end (by kernel_rfl) ?_
 replace S := S.keep [0, 2, 7, 9, 28, 8]
 refine then_normal (wp_seq ?_)
 rw [show ((((s.app r x).st.cellsL (.slice da2 (s.app r x).ps.length dc2)).set 13 (.int .i64 s.a)).set 14 (.int .i64 (s.n + (nOf (r.enc x).length : Nat)))) = (s.keep r x).st.cellsL (.slice da2 (s.keep r x).ps.length dc2) from rfl] at M
 refine wp_region_lit (qG [1, 1] S ?_); clear S a; intro a S
 refine nxC (st_if (t := 52) S rfl ?_ ?_)
 ·clear S; intro h52 S
  exact absurd rfl h52
 clear S; intro h52 S
 refine st_condF S rfl (wp_skip (then_normal (wp_seq (nxD (qG [1] S ?_))))); clear S a; intro a S
 refine nxC (st_tils (t := 54) S rfl ?_ ?_)
 ·clear S; intro h54 S
  refine st_condF S rfl (wp_skip (nxE (qG [1] S ?_))); clear S a; intro a S
  refine qY S (y_loadAgg (k := 273) (cs := _) S (by kernel_rfl) rfl (by with_reducible first | exact St.len hok _ | exact St.len hokA _ | exact St.len hokK _ | exact St.len zSt_ok _ | exact shC_len hl | exact len1S _) (M.cellsAt 0 rfl cutL_all)) ?_; clear S a; intro a S
  refine qG [1, 2] S ?_; clear S a; intro a S
  refine st_store (o := 1) (sz := 273) (us := (s.keep r x).st.cellsL (.slice da2 (s.keep r x).ps.length dc2)) S M 3 rfl (by kernel_rfl) rfl rfl rfl (St.len hokK _) (St.one hokK _ rfl) rfl (by rw [shC_len hl, St.len hokK]; exact Nat.le_refl _) ?_; clear M; intro wz M
  simp only [List.set_cons_zero, List.set_cons_succ] at M
  rw [shC_put hl hlK] at M
  refine nxA (qG [1] S ?_); clear S a; intro a S
  refine nxC (wp_ret (end_one S rfl (res_tmp rfl) ?_))
  skip
  replace M := M.drop 0
  simp only [List.eraseIdx_cons_succ, List.eraseIdx_cons_zero] at M
  replace M := M.drop 0
  simp only [List.eraseIdx_cons_succ, List.eraseIdx_cons_zero] at M
  replace M := M.drop 0
  simp only [List.eraseIdx_cons_succ, List.eraseIdx_cons_zero] at M
  replace M := M.drop 1
  simp only [List.eraseIdx_cons_succ, List.eraseIdx_cons_zero] at M
  first
   | (revert h54; refine fun h54 : fl = true => ?_
      exact ⟨rfl, da2, dc2, lo2, hi2, cs2, es2, E3, by unfold Sh.keepD; rw [if_pos h54]; exact hE3, hBk2, M.sub (.cons_cons _ (.cons_cons _ ((List.Sublist.refl es2).append (List.sublist_append_right es _))))⟩)
   | (revert h54; refine fun h54 : fl = false => ?_
      exact ⟨rfl, da2, dc2, lo2, hi2, cs2, es2, E2, by unfold Sh.keepD; rw [if_neg (by rw [h54]; decide)]; exact hE2, hBk2, M.sub (.cons_cons _ (.cons_cons _ ((List.Sublist.refl es2).append (List.sublist_append_right es _))))⟩)
 clear S; intro h54 S
 refine st_condT S rfl (nxD (qG [1, 1, 1] S ?_)); clear S a; intro a S
 refine qY S (y_load S (by kernel_rfl) rfl (M.cell 3 rfl (shC_d _ _ _))) ?_; clear S a; intro a S
 refine qC (xs := [.tmp 58]) S (qE Tryz.func56) rfl (jflush_any (A := _ :: _ :: _ :: _ :: _ ::  _ :: (es2 ++ (es ++ A))) hE2 (by simpa only [List.cons_append, List.append_assoc] using M) (by rw [putF_down]; exact hup) (fun k => by have h8 := putF_cache_le (S := S0) (m := 5000) (cutF (r.enc x) s.n s.x.inc) (fun k => by have := hca k; omega) k; rw [cutF_length] at h8; unfold nOf at h8; omega)) ?_
 rintro _ w13 ⟨rfl, E3, hE3, M1⟩; refine ⟨_, rfl, ?_⟩; clear S M a; intro a S; have M := M1; clear M1
 simp only [List.cons_append, List.append_assoc] at M
 refine qG [1] S ?_; clear S a; intro a S
 refine nxA (qG [1, 1] S ?_); clear S a; intro a S
 refine nxC (st_if (t := 61) S rfl ?_ ?_)
 ·clear S; intro h61 S
  exact absurd rfl h61
 clear S; intro h61 S
 refine st_condF S rfl (wp_skip (nxE (qG [1] S ?_))); clear S a; intro a S
 refine qY S (y_loadAgg (k := 273) (cs := _) S (by kernel_rfl) rfl (by with_reducible first | exact St.len hok _ | exact St.len hokA _ | exact St.len hokK _ | exact St.len zSt_ok _ | exact shC_len hl | exact len1S _) (M.cellsAt 0 rfl cutL_all)) ?_; clear S a; intro a S
 refine qG [1, 2] S ?_; clear S a; intro a S
 refine st_store (o := 1) (sz := 273) (us := (s.keep r x).st.cellsL (.slice da2 (s.keep r x).ps.length dc2)) S M 3 rfl (by kernel_rfl) rfl rfl rfl (St.len hokK _) (St.one hokK _ rfl) rfl (by rw [shC_len hl, St.len hokK]; exact Nat.le_refl _) ?_; clear M; intro wz M
 simp only [List.set_cons_zero, List.set_cons_succ] at M
 rw [shC_put hl hlK] at M
 refine nxA (qG [1] S ?_); clear S a; intro a S
 refine nxC (wp_ret (end_one S rfl (res_tmp rfl) ?_))
 skip
 replace M := M.drop 0
 simp only [List.eraseIdx_cons_succ, List.eraseIdx_cons_zero] at M
 replace M := M.drop 0
 simp only [List.eraseIdx_cons_succ, List.eraseIdx_cons_zero] at M
 replace M := M.drop 0
 simp only [List.eraseIdx_cons_succ, List.eraseIdx_cons_zero] at M
 replace M := M.drop 1
 simp only [List.eraseIdx_cons_succ, List.eraseIdx_cons_zero] at M
 first
  | (revert h54; refine fun h54 : fl = true => ?_
     exact ⟨rfl, da2, dc2, lo2, hi2, cs2, es2, E3, by unfold Sh.keepD; rw [if_pos h54]; exact hE3, hBk2, M.sub (.cons_cons _ (.cons_cons _ ((List.Sublist.refl es2).append (List.sublist_append_right es _))))⟩)
  | (revert h54; refine fun h54 : fl = false => ?_
     exact ⟨rfl, da2, dc2, lo2, hi2, cs2, es2, E2, by unfold Sh.keepD; rw [if_neg (by rw [h54]; decide)]; exact hE2, hBk2, M.sub (.cons_cons _ (.cons_cons _ ((List.Sublist.refl es2).append (List.sublist_append_right es _))))⟩)
end Go.Proofs.YtndabhdepjnbcaaGreat

namespace Go.Proofs.YtndabhdepjnbcaaGreat
open Go.RowKit Go.Sort
theorem ofInt_byte {z : Int} (h : 0 ≤ z ∧ z ≤ 255) : ∃ k : Nat, k ≤ 255 ∧ z = (k : Int) ∧ BitVec.ofInt 64 z = BitVec.ofNat 64 k := by
 obtain ⟨k, rfl⟩ := Int.eq_ofNat_of_zero_le h.1
 exact ⟨k, by omega, rfl, by simp⟩
theorem wrap_byte {k : Nat} (h : k ≤ 255) : IntKind.i64.wrap (k : Int) = (k : Int) := by rw [IntKind.wrap_i64]; omega
theorem orV_byte {x y : Int} (hx : 0 ≤ x ∧ x ≤ 255) (hy : 0 ≤ y ∧ y ≤ 255) : 0 ≤ orV x y ∧ orV x y ≤ 255 := by
 obtain ⟨a, ha, rfl, ea⟩ := ofInt_byte hx
 obtain ⟨b, hb, rfl, eb⟩ := ofInt_byte hy
 have e : orV (a : Int) (b : Int) = IntKind.i64.wrap (((BitVec.ofInt 64 (a : Int) ||| BitVec.ofInt 64 (b : Int) : BitVec 64).toNat : Nat) : Int) := rfl
 have e2 : (BitVec.ofNat 64 a ||| BitVec.ofNat 64 b).toNat = a ||| b := by
  rw [BitVec.toNat_or, BitVec.toNat_ofNat, BitVec.toNat_ofNat, Nat.mod_eq_of_lt (by omega), Nat.mod_eq_of_lt (by omega)]
 have h8 : a ||| b < 2 ^ 8 := Nat.or_lt_two_pow (by omega) (by omega)
 rw [e, ea, eb, e2, wrap_byte (by omega)]
 omega
theorem andNotV_byte {x y : Int} (hx : 0 ≤ x ∧ x ≤ 255) : 0 ≤ andNotV x y ∧ andNotV x y ≤ 255 := by
 obtain ⟨a, ha, rfl, ea⟩ := ofInt_byte hx
 have e : andNotV (a : Int) y = IntKind.i64.wrap (((BitVec.ofInt 64 (a : Int) &&& ~~~BitVec.ofInt 64 y : BitVec 64).toNat : Nat) : Int) := rfl
 have h8 : (BitVec.ofNat 64 a &&& ~~~BitVec.ofInt 64 y).toNat ≤ a := by
  rw [BitVec.toNat_and, BitVec.toNat_ofNat, Nat.mod_eq_of_lt (by omega)]
  exact Nat.and_le_left
 rw [e, ea, wrap_byte (by omega)]
 omega
theorem mayQ_bits {q : Pr × List Wr} (h : mayQ q) : (0 ≤ q.1.give ∧ q.1.give ≤ 255) ∧ (0 ≤ q.1.take ∧ q.1.take ≤ 255) := by
 rcases may_cases h with ⟨a, -⟩ | ⟨-, -, -, -, h1, h2, -⟩ | ⟨a, -⟩ | ⟨a, -⟩ | ⟨a, -⟩ | ⟨a, -⟩ | ⟨a, -⟩
 all_goals first | (simp [prRc] at a; done) | skip
 have k1 : 0 ≤ q.1.give ∧ q.1.give < 256 := of_decide_eq_true h1
 have k2 : 0 ≤ q.1.take ∧ q.1.take < 256 := of_decide_eq_true h2
 omega
theorem ownP_byte {o : Int} {ps : Pl} (ho : 0 ≤ o ∧ o ≤ 255) (hm : ∀ q ∈ ps, mayQ q) (r : Rc) : 0 ≤ ownP o ps r ∧ ownP o ps r ≤ 255 := by
 unfold ownP
 split
 ·split
  ·split
   ·rename_i q hq
    exact orV_byte (andNotV_byte ho) (mayQ_bits (hm q (List.mem_of_getElem? hq))).2
   ·exact ho
  ·exact ho
 ·exact ho
theorem Sh.save_may {s : Sh} {S : DS} {N : Int} (h : ShI S s N) : (ckSu s.x s.n).may := by
 obtain ⟨h0, h1, h2, h3, h4, h5, h6, h7, h8, h9, h10⟩ := h.may
 have hlg := h.lg; unfold mayL at hlg
 have := h.nx; have := h.few; have := h.gen
 refine ⟨h0, ?_⟩
 simp only [ckSu]; omega
theorem ShI.save {s : Sh} {S : DS} {N : Int} (h : ShI S s N) (hN : N + 1 ≤ 1000) : ShI (s.saveD S) s.save (N + 1) := by
 have hlg := h.lg; unfold mayL at hlg
 have h1 := h.nx; have h2 := h.w8; have h3 := h.gen; have h4 := h.few
 have hc : (s.saveD S).cache = fun _ => [] := by
  unfold Sh.saveD
  rw [show 12 + s.ps.length = 11 + s.ps.length + 1 by omega, sv, sv1_fl (.inr (.inr (by omega)))]; rfl
 refine ⟨?_, fun k => by rw [hc]; show ((0 : Nat) : Int) ≤ _; omega, h.hl, h.mq, Sh.save_may h, ?_, ?_, ?_, hN, h2, ?_⟩
 ·unfold Sh.saveD; rw [sv_down]; exact h.up
 ·unfold mayL Sh.save; simp only; omega
 ·unfold Sh.save; simp only; omega
 ·show s.x.gen + 1 ≤ _; omega
 ·show s.n + ((wtP s.ps : Nat) : Int) + ((wtP s.ps + s.ps.length : Nat) : Int) ≤ s.n + 24; omega
theorem ShI.mono {s : Sh} {S : DS} {N M : Int} (h : ShI S s N) (h1 : N ≤ M) (h2 : M ≤ 1000) : ShI S s M :=
 ⟨h.up, fun k => by have := h.cache k; omega, h.hl, h.mq, h.may, h.lg, by have := h.nx; omega, by have := h.gen; omega, h2, h.w8, h.room⟩
theorem ShI.keep {s : Sh} {S : DS} {N : Int} {r : Rc} {x : List Wr} {fl : Bool} (h : ShI S s N) (hN : N + 1 ≤ 1000) (hm : r.may x = true) (hmq : ∀ q ∈ (stepO s.ps r x).1, mayQ q) (hw : wtP (stepO s.ps r x).1 + (stepO s.ps r x).1.length ≤ 8) (hr : s.n + (nOf (r.enc x).length : Nat) + ((wtP (stepO s.ps r x).1 + (stepO s.ps r x).1.length : Nat) : Int) ≤ s.a + 24) : ShI (s.keepD S r x fl) (s.keep r x) (N + 1) := by
 have hlg := h.lg; unfold mayL at hlg
 have h1 := h.nx; have h2 := h.w8; have h3 := h.gen; have h4 := h.few
 have hel := enc_len hm
 have hno : nOf (r.enc x).length ≤ 2 := by unfold nOf; omega
 have hpc : ∀ k, (((putF S (cutF (r.enc x) s.n s.x.inc)).cache k).length : Int) ≤ 5 * (N + 1) := fun k => by
  have h8 := putF_cache_le (S := S) (m := (5 * N).toNat) (cutF (r.enc x) s.n s.x.inc) (fun k => by have := h.cache k; omega) k
  rw [cutF_length] at h8
  have := h.cache k
  omega
 refine ⟨?_, fun k => ?_, ?_, hmq, ?_, ?_, ?_, (show s.x.gen ≤ N + 1 by omega), hN, hw, hr⟩
 ·unfold Sh.keepD; split
  ·exact (putF_down _ _).trans h.up
  ·exact (putF_down _ _).trans h.up
 ·unfold Sh.keepD; split
  ·show ((0 : Nat) : Int) ≤ _; omega
  ·exact hpc k
 ·show (onF _ _).length = 32; rw [onF_length]; exact h.hl
 ·obtain ⟨g0, g1, g2, g3, g4, g5, g6, g7⟩ := h.may
  have := ownP_byte (o := s.x.owned) ⟨g5, g6⟩ h.mq r
  exact ⟨g0, g1, g2, g3, g4, this.1, this.2, g7⟩
 ·unfold mayL Sh.keep; simp only; omega
 ·unfold Sh.keep; simp only; omega
theorem perm_close {α : Type} {P es A E : List α} {X D : α} : (P ++ (X :: D :: (es ++ (A ++ E)))).Perm (X :: D :: (es ++ ((P ++ A) ++ E))) := by
 have e : X :: D :: (es ++ ((P ++ A) ++ E)) = ([X, D] ++ es) ++ (P ++ (A ++ E)) := by simp
 have e2 : P ++ (X :: D :: (es ++ (A ++ E))) = P ++ (([X, D] ++ es) ++ (A ++ E)) := by simp
 rw [e, e2, ← List.append_assoc P, ← List.append_assoc ([X, D] ++ es)]
 exact List.perm_append_comm.append_right (A ++ E)
theorem ShM.close {wc w : World} {P A E es : List Ent} {b bd lo hi dc : Nat} {s : Sh} {S : DS} {da : Option Addr} {cs : List Value} (hE : DkE bd S E) (hB : PrBk cs s.ps es)
 (M : Mem wc w (P ++ (shE b bd s (.slice da s.ps.length dc) :: rowE lo hi 75 6 (.slice da s.ps.length dc) s.ps.length cs :: (es ++ (A ++ E))))) : ShM wc w (P ++ A) b bd s S :=
 ⟨da, dc, lo, hi, cs, es, E, hE, hB, M.perm perm_close⟩
theorem ShM.open {wc w : World} {P A : List Ent} {b bd : Nat} {s : Sh} {S : DS} (h : ShM wc w (P ++ A) b bd s S) : ∃ (da : Option Addr) (dc lo hi : Nat) (cs : List Value) (es E : List Ent), DkE bd S E ∧ PrBk cs s.ps es ∧
 Mem wc w (P ++ (shE b bd s (.slice da s.ps.length dc) :: rowE lo hi 75 6 (.slice da s.ps.length dc) s.ps.length cs :: (es ++ (A ++ E)))) := by
 obtain ⟨da, dc, lo, hi, cs, es, E, hE, hB, M⟩ := h
 exact ⟨da, dc, lo, hi, cs, es, E, hE, hB, M.perm perm_close.symm⟩
theorem ShM.drop {wc w : World} {P A : List Ent} {b bd : Nat} {s : Sh} {S : DS} (h : ShM wc w (P ++ A) b bd s S) : ShM wc w A b bd s S := by
 obtain ⟨da, dc, lo, hi, cs, es, E, hE, hB, M⟩ := h
 exact ⟨da, dc, lo, hi, cs, es, E, hE, hB, M.sub (.cons_cons _ (.cons_cons _ ((List.Sublist.refl es).append ((List.sublist_append_right P A).append (List.Sublist.refl E)))))⟩
def wQ (ps : Pl) : Nat := wtP ps + ps.length
theorem wQ_take {ps : Pl} {k : Nat} {q : Pr × List Wr} (h : ps[k]? = some q) : wQ (ps.take (k + 1)) = wQ (ps.take k) + (secQ q + 1) := by
 have hl := (List.getElem?_eq_some_iff.1 h).1
 unfold wQ; rw [wtP_take h, List.length_take, List.length_take]; omega
theorem wQ_le (ps : Pl) (k : Nat) : wQ (ps.take k) ≤ wQ ps := by
 have h1 : wtP ps = wtP (ps.take k) + wtP (ps.drop k) := by rw [← wtP_append, List.take_append_drop]
 unfold wQ; rw [List.length_take]; omega
theorem scale1_any {wc w : World} {H : List Ent} {bA : Nat} (n : Int) (q : Pr × List Wr) (ad : Option Addr) (cp : Nat) (M : Mem wc w (.blk bA #[.int .i64 n] 3 :: H)) (hm : mayQ q) (hW2 : ∀ W pre, Mem wc W (pre ++ H) → Ws 0 W.heap.size W (.slice ad q.2.length cp) q.2) (hn : 0 ≤ n ∧ n ≤ 1000) :
 Calls Tryz.prog 51 #[.agg (q.1.cellsL (.slice ad q.2.length cp)).toArray, pB bA] w fun e w' => e = .returned (.int .i64 (n + (secQ q + 1 : Nat))) ∧ Mem wc w' (.blk bA #[.int .i64 (n + (secQ q + 1 : Nat))] 3 :: H) := by
 have hs := secQ_le hm
 refine calls_enter Tryz.func51 rfl 24 rfl rfl ?_; intro a S
 refine wp_seq ?_
 skip
 refine wp_region_lit (st_box S M rfl rfl rfl #[_, _, _, _, _, _] rfl ?_); clear S M a; intro a w1 bP S M hB
 refine qG [1] S ?_; clear S a; intro a S
 refine nxA (qG [1] S ?_); clear S a; intro a S
 refine qY S (y_loadAgg (cs := [_, _, _]) S (by kernel_rfl) rfl rfl (M.cellsAt (k := 3) 0 rfl rfl)) ?_; clear S a; intro a S
 refine qR [4, 1, 5, 1, 6, 1] S M ?_; clear S a; intro a S
 refine qY S (y_build (ps := [(0, .const (.int .i8 2)), (1, .tmp 8), (3, .tmp 10), (4, .tmp 12), (5, .tmp 14)]) (pl := [(0, 1), (1, 3), (4, 1), (5, 1), (6, 1), (7, 1), (8, 1), (9, 2), (11, 1)]) (z := [.int .i8 0, .int .i64 0, .int .i64 0, .int .i64 0, .bool false, .slice none 0 0, .int .i64 0, .int .i64 0, .int .i64 0, .int .i64 0, .int .i64 0, .int .i64 0]) (cs := [_, _, _, _, _, _, _, _, _, _, _, _]) S (by kernel_rfl) rfl (rfl)) ?_; clear S a; intro a S
 refine qQ (xs := [.tmp 15]) S (qE Tryz.func52) rfl (sectorsR_any (prRc q.1) ad q.2.length cp q.2 _ (by show (0 : Int) ≤ _; omega) (hW2 _ [_, _] M)) M ?_; clear S M a; intro a w2 S hK M
 rw [secsN_nOf hm, if_pos (show (prRc q.1).may q.2 = true from hm), show nOf ((prRc q.1).enc q.2).length = secQ q from rfl] at S
 refine qG [1, 1, 1, 1, 1] S ?_; clear S a; intro a S
 replace S := S.keep [0, 1, 2, 3, 4]
 refine nxA (qR [2, 1] S M ?_); clear S a; intro a S
 (first | refine qY S (y_addN S rfl rfl (by omega)) ?_ | refine qY S (y_int S rfl rfl rfl) ?_); clear S a; intro a S
 (first | refine qY S (y_addN S rfl rfl (by omega)) ?_ | refine qY S (y_int S rfl rfl rfl) ?_); clear S a; intro a S
 refine qS (sz := 1) (us := [_]) S M 1 ?_; clear M; intro w3 M
 refine nxA (qR [2, 1] S M ?_); clear S a; intro a S
 refine nxC (wp_ret (end_one S rfl (res_tmp rfl) ?_))
 rw [show n + (((secQ q : Nat) : Int) + 1) = n + ((secQ q + 1 : Nat) : Int) by omega] at *
 exact ⟨rfl, M.drop 0⟩
end Go.Proofs.YtndabhdepjnbcaaGreat

