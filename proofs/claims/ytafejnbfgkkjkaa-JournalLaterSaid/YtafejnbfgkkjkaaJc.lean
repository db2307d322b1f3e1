/-
  Package journal: the sectors that a scan reads; disk.New.
-/
import Derived.Test.YtafejnbfgkkjkaaJa
import Derived.Test.YtafejnbfgkkjkaaGD
import Derived.Test.YtafejnbfgkkjkaaVQ
import Derived.Test.YtafejnbfgkkjkaaEqF
namespace Go.Proofs.Ytafejnbfgkkjkaa
open Go.RowKit Go.Sort

/-- the disk b holds S, in this world -/
def DkW (b : Nat) (S : DS) (W : World) : Prop := ∃ wc A E, DkE b S E ∧ Mem wc W (A ++ E)
structure SecC (b bf bd : Nat) (tail : Int) (S : DS) (W : World) : Prop where
  disk : DkW b S W
  f : Blk W bf #[.int .i64 tail] 3
  d : Blk W bd #[.pointer (some ⟨b, 0, none⟩)] 24
/-- the sectors from a tail on, once around -/
def secAt (S : DS) (tail : Int) (i : Nat) : List UInt8 := S.get (2 + (tail + i) % 24).toNat
def secsOf (S : DS) (tail : Int) : List (List UInt8) := (List.range 24).map (secAt S tail)
/-- how many sectors a scan may read: no sequence is greater than 2^40 -/
def secN (tail : Int) : Nat := min 24 (1099511627777 - tail).toNat
def secsG (S : DS) (tail : Int) : List (List UInt8) := (List.range (secN tail)).map (secAt S tail)
theorem secsG_eq (S : DS) {tail : Int} (h : tail ≤ 4294967296) : secsG S tail = secsOf S tail := by
  unfold secsG secsOf
  rw [show secN tail = 24 by unfold secN; omega]
theorem secsG_len (S : DS) (tail : Int) : (secsG S tail).length = secN tail := by simp [secsG]
def secV (x : List UInt8) (vs : List Value) (E : List Ent) : Prop := ∃ v lo hi, vs = [v, .int .i64 0] ∧ E = [rowE lo hi 5 1 v x.length (bcells x)] ∧ x.length = 64
theorem range_at {α : Type} (f : Nat → α) {k n : Nat} (h : k < n) : ∃ t, (List.range n).map f = (List.range k).map f ++ f k :: t := by
  refine ⟨((List.range n).map f).drop (k + 1), ?_⟩
  have hl : ((List.range n).map f).length = n := by simp
  have ht : ((List.range n).map f).take k = (List.range k).map f := by
    rw [← List.map_take, List.take_range, Nat.min_eq_left (by omega)]
  conv => lhs; rw [← List.take_append_drop k ((List.range n).map f), List.drop_eq_getElem_cons (by omega), ht]
  congr 2
  simp
theorem range_snoc {α : Type} (f : Nat → α) (k : Nat) : (List.range (k + 1)).map f = (List.range k).map f ++ [f k] := by simp [List.range_succ]
set_option maxHeartbeats 2000000 in
theorem sectors1_gen (b bf bd : Nat) (tail : Int) (S0 : DS) (hup : S0.down = false) (hw : ∀ k, (S0.cache k).length ≤ 1000000) (ht : 1 ≤ tail ∧ tail ≤ 1099511627776) : GenV Try.prog 53 [.pointer (some ⟨bf, 0, none⟩), .pointer (some ⟨bd, 0, none⟩)] secV (secsG S0 tail) (SecC b bf bd tail S0) := by
  intro ll w0 I X w Hs0 hC hY h0 M
  refine calls_enterG Try.func53 rfl 36 rfl rfl ?_; intro a S
  refine wpIn_seq ?_
  refine wpI_region (by kernel_rfl) (by rintro _ _ ⟨⟨_, h⟩, -⟩; cases h) ?_
  refine st_go [1] S rfl (by kernel_rfl) ?_; clear S a; intro a S
  refine nxC ?_
  refine wpIn_block ?_
  refine wpI_loop_g (fun m a w' => ∃ (i : Nat) (Hs : List Ent), i ≤ secN tail ∧ m = 24 - i ∧ I ((List.range i).map (secAt S0 tail)) Hs ∧ Sees 36 a [(0, .func (.yield ll) #[] #[]), (1, .pointer (some ⟨bf, 0, none⟩)), (2, .pointer (some ⟨bd, 0, none⟩)), (8, .int .i64 (i : Int))] ∧ Mem w0 w' Hs) (24) ?_ ?_
  · skip
    exact ⟨0, Hs0, Nat.zero_le _, rfl, h0, S.sub _ rfl, M⟩
  clear S M a; intro m a wl
  rintro ⟨i, Hs, hi', rfl, hI, S, M⟩
  refine wpIn_seq ?_
  refine wpI_region (by kernel_rfl) (by rintro _ _ ⟨⟨_, h⟩, -⟩; cases h) ?_
  refine st_go [1] S rfl (by kernel_rfl) ?_; clear S a; intro a S
  refine nxC ?_
  refine wpIn_seq ?_
  refine st_fi (t := 9) S rfl ?_ ?_
  · clear S; intro h9 S
    refine stI_condF S rfl ?_
    refine wpIn_exit ?_
    refine then_exit ?_
    refine then_exit ?_
    refine block_hit ?_
    refine end_noneN S rfl ?_
    obtain rfl : i = secN tail := by
      unfold secN at hi' ⊢
      omega
    exact ⟨⟨_, rfl⟩, Hs, M, .inl hI⟩
  clear S; intro h9 S
  refine stI_condT S rfl ?_
  refine wpIn_skip ?_
  refine then_normal ?_
  refine wpIn_seq ?_
  refine wpIn_block ?_
  refine wpIn_seq ?_
  have hlt : i < 24 := by omega
  refine wpI_region (by kernel_rfl) (by rintro _ _ ⟨⟨_, h⟩, -⟩; cases h) ?_
  refine st_go [1, 1] S rfl (by kernel_rfl) ?_; clear S a; intro a S
  refine nxC ?_
  refine wpIn_seq ?_
  refine wpI_region (by kernel_rfl) (by rintro _ _ ⟨⟨_, h⟩, -⟩; cases h) ?_
  refine st_y S rfl rfl rfl (y_load S (by kernel_rfl) rfl (((hC _ _ _ hI M).f).cells 0)) ?_; clear S a; intro a S
  refine st_go [1] S rfl (by kernel_rfl) ?_; clear S a; intro a S
  (first | refine st_y S rfl rfl rfl (y_addN S rfl rfl (by omega)) ?_ | refine st_y S rfl rfl rfl (y_int S rfl rfl rfl) ?_); clear S a; intro a S
  refine st_call (xs := [(Operand.tmp 14)]) S (enters_of Try.func35 (by decide) rfl) rfl rfl rfl (PlaceJ (tail + (i : Int)) _) ?_
  rintro _ w1 ⟨rfl, hK⟩; refine ⟨_, rfl, ?_⟩; clear S a; intro a S; replace M := M.grow hK
  refine st_go [1, 1, 1, 1, 1] S rfl (by kernel_rfl) ?_; clear S a; intro a S
  refine nxC ?_
  refine wpIn_seq ?_
  refine wpIn_seq ?_
  refine wpI_region (by kernel_rfl) (by rintro _ _ ⟨⟨_, h⟩, -⟩; cases h) ?_
  refine st_go [1, 1] S rfl (by kernel_rfl) ?_; clear S a; intro a S
  refine nxC ?_
  refine st_if (t := 19) S rfl ?_ ?_
  · clear S; intro h19 S
    refine stI_condT S rfl ?_
    refine wpIn_ret ?_
    refine then_ret ?_
    refine block_ret ?_
    refine then_ret ?_
    refine then_ret ?_
    refine block_ret ?_
    refine end_none S rfl ?_
    obtain rfl : i = secN tail := by
      have hgt : ¬ (1 ≤ tail + (i : Int) ∧ tail + (i : Int) ≤ 1099511627776) := fun h => h19 (by unfold plE; rw [if_pos h])
      unfold secN at hi' ⊢
      omega
    exact ⟨⟨_, rfl⟩, Hs, M, .inl hI⟩
  clear S; intro h19 S
  refine stI_condF S rfl ?_
  refine wpIn_skip ?_
  refine then_normal ?_
  refine wpIn_seq ?_
  have hin : 1 ≤ tail + (i : Int) ∧ tail + (i : Int) ≤ 1099511627776 := by
    by_cases h : 1 ≤ tail + (i : Int) ∧ tail + (i : Int) ≤ 1099511627776
    · exact h
    · unfold plE at h19; rw [if_neg h] at h19; omega
  have hpe : plE (tail + (i : Int)) = 0 := by unfold plE; rw [if_pos hin]
  have hpv : plV (tail + (i : Int)) = (((2 + (tail + (i : Int)) % 24).toNat : Nat) : Int) := by unfold plV; rw [if_pos hin]; omega
  rw [hpe, hpv] at S
  have hlt2 : i < secN tail := by unfold secN; omega
  obtain ⟨tx, hx⟩ := range_at (secAt S0 tail) hlt2
  refine wpI_region (by kernel_rfl) (by rintro _ _ ⟨⟨_, h⟩, -⟩; cases h) ?_
  refine st_y S rfl rfl rfl (y_load S (by kernel_rfl) rfl (((hC _ _ _ hI M).d).cells 0)) ?_; clear S a; intro a S
  refine st_go [1] S rfl (by kernel_rfl) ?_; clear S a; intro a S
  refine st_call (xs := [(Operand.tmp 21), (Operand.tmp 22)]) S (enters_of Try.func54 (by decide) rfl) rfl rfl rfl ((by obtain ⟨wc, A, E, hE, MM⟩ := (hC _ _ _ hI M).disk; exact dread_any hE MM hup (by omega) (hw _))) ?_
  rintro _ w2 ⟨v', rfl, hF, h64⟩; refine ⟨_, rfl, ?_⟩; clear S a; intro a S
  obtain ⟨lo, hi, -, M2⟩ := M.pushFresh hF; clear M; have M := M2; clear M2
  refine st_go [1, 1, 1, 1, 1] S rfl (by kernel_rfl) ?_; clear S a; intro a S
  replace S := S.sub [(0, _), (1, _), (2, _), (8, _), (9, _), (4, _), (5, _), (19, _), (7, _), (6, _)] rfl
  refine nxC ?_
  refine wpIn_seq ?_
  refine wpI_preK 3 (by kernel_rfl) (by rintro _ _ ⟨⟨_, h⟩, -⟩; cases h) ?_; simp only [List.take_succ_cons, List.take_zero, List.drop_succ_cons, List.drop_zero]
  refine st_go [1, 1, 1] S rfl (by kernel_rfl) ?_; clear S a; intro a S
  refine wpList_nil ?_; refine then_normal ?_
  refine stI_yield (xs := [(Operand.tmp 27), (Operand.tmp 28)]) S rfl (by kernel_rfl) rfl rfl (hY ((List.range i).map (secAt S0 tail)) (secAt S0 tail i) tx [_] [v', .int .i64 0] Hs _ hx ⟨v', lo, hi, rfl, rfl, h64⟩ hI M) ?_
  rintro e w3 ⟨Hs2, M2, hh⟩
  obtain ⟨bb, rfl, hb⟩ : ∃ bb, e = .returned (.bool bb) ∧ ((bb = true ∧ I ((List.range i).map (secAt S0 tail) ++ [secAt S0 tail i]) Hs2) ∨ (bb = false ∧ X ((List.range i).map (secAt S0 tail) ++ [secAt S0 tail i]) Hs2)) := by
    rcases hh with ⟨rfl, h⟩ | ⟨rfl, h⟩
    · exact ⟨true, rfl, .inl ⟨rfl, h⟩⟩
    · exact ⟨false, rfl, .inr ⟨rfl, h⟩⟩
  refine ⟨_, rfl, ?_⟩; clear S M a; intro a S; have M := M2; clear M2
  simp only [List.cons_append, List.nil_append] at M
  refine list_in (by kernel_rfl) (by rintro _ _ ⟨⟨_, h⟩, -⟩; cases h) ?_
  refine st_go [1, 1] S rfl (by kernel_rfl) ?_; clear S a; intro a S
  refine st_split (t := 31) S rfl ?_ ?_
  · clear S; intro h31 S
    refine st_go [0, 0, 1] S rfl (by kernel_rfl) ?_; clear S a; intro a S
    refine nxC ?_
    refine stI_condT S rfl ?_
    refine wpIn_ret ?_
    refine block_ret ?_
    refine then_ret ?_
    refine then_ret ?_
    refine block_ret ?_
    refine end_none S rfl ?_
    refine ⟨⟨_, rfl⟩, Hs2, M.drop 0, .inr ⟨_, _, _, hx, ?_⟩⟩
    rcases hb with ⟨rfl, -⟩ | ⟨-, h⟩
    · first | (cases h31; done) | (cases h34; done) | (simp at h31; done) | (simp at h34; done)
    · exact h
  clear S; intro h31 S
  refine st_go [1, 1, 1] S rfl (by kernel_rfl) ?_; clear S a; intro a S
  refine nxC ?_
  refine st_split (t := 34) S rfl ?_ ?_
  · clear S; intro h34 S
    refine stI_condT S rfl ?_
    refine wpIn_ret ?_
    refine block_ret ?_
    refine then_ret ?_
    refine then_ret ?_
    refine block_ret ?_
    refine end_none S rfl ?_
    refine ⟨⟨_, rfl⟩, Hs2, M.drop 0, .inr ⟨_, _, _, hx, ?_⟩⟩
    rcases hb with ⟨rfl, -⟩ | ⟨-, h⟩
    · first | (cases h31; done) | (cases h34; done) | (simp at h31; done) | (simp at h34; done)
    · exact h
  clear S; intro h34 S
  refine stI_condF S rfl ?_
  refine wpIn_skip ?_
  refine block_normal ?_
  refine then_normal ?_
  refine wpI_region (by kernel_rfl) (by rintro _ _ ⟨⟨_, h⟩, -⟩; cases h) ?_
  (first | refine st_y S rfl rfl rfl (y_addN S rfl rfl (by omega)) ?_ | refine st_y S rfl rfl rfl (y_int S rfl rfl rfl) ?_); clear S a; intro a S
  refine st_go [1] S rfl (by kernel_rfl) ?_; clear S a; intro a S
  refine nxC ?_
  skip
  replace M := M.drop 0
  simp only [List.eraseIdx_cons_succ, List.eraseIdx_cons_zero] at M
  have hI2 : I ((List.range (i + 1)).map (secAt S0 tail)) Hs2 := by
    rw [range_snoc]
    rcases hb with ⟨-, h⟩ | ⟨rfl, -⟩
    · exact h
    · first | (cases h31; done) | (cases h34; done) | (simp at h31; done) | (simp at h34; done)
  exact ⟨24 - (i + 1), by omega, i + 1, Hs2, hlt2, rfl, hI2, S.sub _ rfl, M⟩
theorem sectors_any (b : Nat) (tail : Int) (w : World) : Calls Try.prog 40 #[.pointer (some ⟨b, 0, none⟩), .int .i64 tail] w fun e w' => ∃ bf bd, e = .returned (.func (.func 53) #[] #[.pointer (some ⟨bf, 0, none⟩), .pointer (some ⟨bd, 0, none⟩)]) ∧ Mem w w' [.blk bf #[.int .i64 tail] 3, .blk bd #[.pointer (some ⟨b, 0, none⟩)] 24] := by
  have M := Mem.start w
  refine calls_enter Try.func40 rfl 6 rfl rfl ?_; intro a S
  refine nxD ?_
  refine st_box S M rfl rfl rfl #[_] rfl ?_; clear S M a; intro a w1 bD S M hB
  refine st_box S M rfl rfl rfl #[_] rfl ?_; clear S M a; intro a w2 bF S M hB
  refine st_go [1] S rfl (by kernel_rfl) ?_; clear S a; intro a S
  refine nxA ?_
  refine st_y S rfl rfl rfl (y_makeFunc (fs := []) (cs := [(Operand.tmp 3), (Operand.tmp 2)]) S rfl rfl) ?_; clear S a; intro a S
  refine st_go [1] S rfl (by kernel_rfl) ?_; clear S a; intro a S
  refine nxC ?_
  refine wp_ret ?_
  refine end_one S rfl (res_tmp rfl) ?_
  exact ⟨bF, bD, rfl, M⟩
def DS.new : DS := ⟨fun k => durAt (List.replicate 2176 0) k, fun _ => [], false⟩
def zDisk : List Value := bcells (List.replicate 2176 0) ++ [.map none, .bool false]
theorem zDisk_len : zDisk.length = 2178 := by unfold zDisk; rw [List.length_append, bcells_length, List.length_replicate]; rfl
theorem zDisk_put (m : Nat) : putL zDisk 2176 [.map (some m)] = dcells (List.replicate 2176 0) m false := by
  have e := putL_mid (A := bcells (List.replicate 2176 0)) (B := [Value.map none]) (C := [Value.bool false]) (us := [Value.map (some m)]) rfl
  rw [show (bcells (List.replicate 2176 0)).length = 2176 by rw [bcells_length, List.length_replicate]] at e
  unfold zDisk dcells
  simp only [List.cons_append, List.nil_append] at e
  exact e
set_option maxRecDepth 100000 in
theorem new_any (w : World) : Calls Try.prog 8 #[] w fun e w' => ∃ b E, e = .returned (.pointer (some ⟨b, 0, none⟩)) ∧ DkE b DS.new E ∧ Mem w w' E := by
  have M := Mem.start w
  refine calls_enter Try.func8 rfl 4 rfl rfl ?_; intro a S
  refine nxD ?_
  refine st_go [1] S rfl (by kernel_rfl) ?_; clear S a; intro a S
  refine nxA ?_
  refine st_makeMap (κ := Int) S M rfl rfl ?_; clear S M a; intro a w1 bM0 S M hB
  refine st_y S rfl rfl rfl (y_build (ps := [(1, (Operand.tmp 1))]) (pl := [(0, 2176), (2176, 1), (2177, 1)]) (z := zDisk) (cs := putL zDisk 2176 [.map (some bM0)]) S (by kernel_rfl) rfl (fillL_one rfl rfl rfl (by rw [zDisk_len]; decide))) ?_; clear S a; intro a S
  refine st_box S M rfl rfl rfl _ rfl ?_; clear S M a; intro a w2 bD S M hB
  refine st_go [1] S rfl (by kernel_rfl) ?_; clear S a; intro a S
  refine nxC ?_
  refine wp_ret ?_
  refine end_one S rfl (res_tmp rfl) ?_
  rw [zDisk_put] at M
  exact ⟨bD, _, rfl, ⟨⟨bD, bM0, 0, [], List.replicate 2176 0, false, []⟩, rfl, ⟨by rw [List.length_replicate], good_nil _, .nil, fun _ => rfl, fun s hs => (by cases hs)⟩, rfl, rfl⟩, M⟩
end Go.Proofs.Ytafejnbfgkkjkaa
