/-
  Package lock: blocked.
-/
import Derived.Test.YtcbofgcmfkcglaaLn
namespace Go.Proofs.Ytcbofgcmfkcglaa
open Go.RowKit Go.Sort

/-- does one that waits conflict with another holder of its block? -/
def BlockedP (held : List Lk) (hs : List Int) (mine : Bool) (x : Lk) : Prop :=
  if x.excl = true then 1 < hs.length ∨ (hs.length = 1 ∧ mine = false) else ∃ (k : Nat) (q : Lk), hs[0]? = some (k : Int) ∧ held[k]? = some q ∧ conf q x = true
set_option maxHeartbeats 1000000 in
theorem blocked_any (va vb : Option Addr) (vc vd : Nat) (held : List Lk) (hs : List Int) (mine : Bool) (x : Lk) (w : World) (hv : Ls 0 w.heap.size w (.slice va held.length vc) held) (hu : Rd 0 w.heap.size w 1 (.slice vb hs.length vd) hs.length (icells hs)) (h0 : ∀ z, hs[0]? = some z → ∃ (k : Nat) (q : Lk), z = (k : Int) ∧ held[k]? = some q) :
    Calls Try.prog 30 #[.slice va held.length vc, .slice vb hs.length vd, .bool mine, .agg x.cellsL.toArray] w fun e w' => ∃ b, e = .returned (.bool b) ∧ Below w.heap.size w w' ∧ (b = true ↔ BlockedP held hs mine x) := by
  have M := Mem.start w
  have hl := hv.2.1
  have hl2 := hu.2.1
  unfold maxLen at hl hl2
  refine calls_enter Try.func30 rfl 36 rfl rfl ?_; intro a S
  refine nxD ?_
  refine st_box S M rfl rfl rfl #[_, _, _, _, _] rfl ?_; clear S M a; intro a w1 bX S M hB
  refine st_go [1] S rfl (by kernel_rfl) ?_; clear S a; intro a S
  refine nxC ?_
  refine wp_seq ?_
  refine nxD ?_
  refine st_run [5, 1] S M rfl (by kernel_rfl) ?_; clear S a; intro a S
  refine nxC ?_
  refine st_split (t := 10) S rfl ?_ ?_
  · clear S; intro h10 S
    refine st_condT S rfl ?_
    refine nxD ?_
    refine st_go [1] S rfl (by kernel_rfl) ?_; clear S a; intro a S
    refine st_y S rfl rfl rfl (y_lenS (E := 3) S rfl (by kernel_rfl)) ?_; clear S a; intro a S
    refine st_go [1, 1] S rfl (by kernel_rfl) ?_; clear S a; intro a S
    refine st_if (t := 14) S rfl ?_ ?_
    · clear S; intro h14 S
      refine st_go [0, 0, 0, 0, 0, 0, 0, 1, 1] S rfl (by kernel_rfl) ?_; clear S a; intro a S
      replace S := S.sub [(0, _), (1, _), (2, _), (3, _), (7, _), (10, _), (8, _)] rfl
      refine nxC ?_
      refine wp_ret ?_
      refine then_ret ?_
      refine end_one S rfl (res_tmp rfl) ?_
      refine ⟨_, rfl, M.below, ?_⟩; unfold BlockedP; rw [if_pos h10]; clear S M; first | (simp; omega) | (cases mine <;> simp <;> omega) | (cases mine <;> simp_all <;> omega) | simp_all
    clear S; intro h14 S
    refine st_go [1] S rfl (by kernel_rfl) ?_; clear S a; intro a S
    refine st_y S rfl rfl rfl (y_lenS (E := 3) S rfl (by kernel_rfl)) ?_; clear S a; intro a S
    refine st_go [1, 1] S rfl (by kernel_rfl) ?_; clear S a; intro a S
    refine st_if (t := 18) S rfl ?_ ?_
    · clear S; intro h18 S
      refine st_go [1, 1, 1, 1, 1] S rfl (by kernel_rfl) ?_; clear S a; intro a S
      replace S := S.sub [(0, _), (1, _), (2, _), (3, _), (7, _), (10, _), (8, _)] rfl
      refine nxC ?_
      refine wp_ret ?_
      refine then_ret ?_
      refine end_one S rfl (res_tmp rfl) ?_
      refine ⟨_, rfl, M.below, ?_⟩; unfold BlockedP; rw [if_pos h10]; clear S M; first | (simp; omega) | (cases mine <;> simp <;> omega) | (cases mine <;> simp_all <;> omega) | simp_all
    clear S; intro h18 S
    refine st_go [0, 0, 1, 1, 1] S rfl (by kernel_rfl) ?_; clear S a; intro a S
    replace S := S.sub [(0, _), (1, _), (2, _), (3, _), (7, _), (10, _), (8, _)] rfl
    refine nxC ?_
    refine wp_ret ?_
    refine then_ret ?_
    refine end_one S rfl (res_tmp rfl) ?_
    refine ⟨_, rfl, M.below, ?_⟩; unfold BlockedP; rw [if_pos h10]; clear S M; first | (simp; omega) | (cases mine <;> simp <;> omega) | (cases mine <;> simp_all <;> omega) | simp_all
  clear S; intro h10 S
  refine st_condF S rfl ?_
  refine wp_skip ?_
  refine then_normal ?_
  refine wp_seq ?_
  obtain ⟨k, q, hkq⟩ : ∃ (k : Nat) (q : Lk), 0 < hs.length → (hs[0]? = some (k : Int) ∧ held[k]? = some q) := by
    by_cases h : 0 < hs.length
    · obtain ⟨z, hz⟩ : ∃ z, hs[0]? = some z := ⟨_, List.getElem?_eq_getElem h⟩
      obtain ⟨k, q, rfl, hq⟩ := h0 z hz
      exact ⟨k, q, fun _ => ⟨hz, hq⟩⟩
    · exact ⟨0, x, fun h' => absurd h' h⟩
  have hkl : 0 < hs.length → k < held.length := fun h => (List.getElem?_eq_some_iff.1 (hkq h).2).1
  refine wp_regionK [] #[false, false, false, false, false, false, false, false, false, false, false, false, false, false] rfl M (by kernel_rfl) ?_; clear M; intro w2 M
  refine k_pure (listed' := #[true, false, false, false, false, false, false, false, false, false, false, false, false, false]) 0 S rfl rfl rfl rfl (by kernel_rfl) rfl (fun _ d _ _ _ h => by cases d <;> exact h) (fun w => y_move S rfl) ?_; clear S a; intro a S
  refine k_pure (listed' := #[true, true, false, false, false, false, false, false, false, false, false, false, false, false]) 1 S rfl rfl rfl rfl (by kernel_rfl) rfl (fun _ d _ _ _ h => by cases d <;> exact h) (fun w => y_lenS (E := 3) S rfl (by kernel_rfl)) ?_; clear S a; intro a S
  refine k_pure (listed' := #[true, true, true, false, false, false, false, false, false, false, false, false, false, false]) 2 S rfl rfl rfl rfl (by kernel_rfl) rfl (fun _ d _ _ _ h => by cases d <;> exact h) (fun w => y_int S rfl rfl rfl) ?_; clear S a; intro a S
  refine k_pure (listed' := #[true, true, true, true, false, false, false, false, false, false, false, false, false, false]) 3 S rfl rfl rfl rfl (by kernel_rfl) rfl (fun _ d _ _ _ h => by cases d <;> exact h) (fun w => y_move S rfl) ?_; clear S a; intro a S
  refine st_fi (t := 26) S rfl ?_ ?_
  · clear S; intro h26 S
    refine k_no (listed' := #[true, true, true, true, true, false, false, false, false, false, false, false, false, false]) 4 S rfl rfl rfl rfl (by kernel_rfl) rfl (fun _ d _ _ _ h => by cases d <;> exact h) ?_; clear S a; intro a S
    refine k_no (listed' := #[true, true, true, true, true, true, false, false, false, false, false, false, false, false]) 5 S rfl rfl rfl rfl (by kernel_rfl) rfl (fun _ d _ _ _ h => by cases d <;> exact h) ?_; clear S a; intro a S
    refine k_no (listed' := #[true, true, true, true, true, true, true, false, false, false, false, false, false, false]) 6 S rfl rfl rfl rfl (by kernel_rfl) rfl (fun _ d _ _ _ h => by cases d <;> exact h) ?_; clear S a; intro a S
    refine k_no (listed' := #[true, true, true, true, true, true, true, true, false, false, false, false, false, false]) 7 S rfl rfl rfl rfl (by kernel_rfl) rfl (fun _ d _ _ _ h => by cases d <;> exact h) ?_; clear S a; intro a S
    refine k_no (listed' := #[true, true, true, true, true, true, true, true, true, false, false, false, false, false]) 8 S rfl rfl rfl rfl (by kernel_rfl) rfl (fun _ d _ _ _ h => by cases d <;> exact h) ?_; clear S a; intro a S
    refine k_no (listed' := #[true, true, true, true, true, true, true, true, true, true, false, false, false, false]) 9 S rfl rfl rfl rfl (by kernel_rfl) rfl (fun _ d _ _ _ h => by cases d <;> exact h) ?_; clear S a; intro a S
    refine k_no (listed' := #[true, true, true, true, true, true, true, true, true, true, true, false, false, false]) 10 S rfl rfl rfl rfl (by kernel_rfl) rfl (fun _ d _ _ _ h => by cases d <;> exact h) ?_; clear S a; intro a S
    refine k_no (listed' := #[true, true, true, true, true, true, true, true, true, true, true, true, false, false]) 11 S rfl rfl rfl rfl (by kernel_rfl) rfl (fun _ d _ _ _ h => by cases d <;> exact h) ?_; clear S a; intro a S
    refine k_pure (listed' := #[true, true, true, true, true, true, true, true, true, true, true, true, true, false]) 12 S rfl rfl rfl rfl (by kernel_rfl) rfl (fun _ d _ _ _ h => by cases d <;> exact h) (fun w => y_pickF S rfl rfl) ?_; clear S a; intro a S
    refine k_pure (listed' := #[true, true, true, true, true, true, true, true, true, true, true, true, true, true]) 13 S rfl rfl rfl rfl (by kernel_rfl) rfl (fun _ d _ _ _ h => by cases d <;> exact h) (fun w => y_assign S rfl) ?_; clear S a; intro a S
    refine k_end (by kernel_rfl) ?_
    replace S := S.sub [(0, _), (1, _), (2, _), (3, _), (7, _), (10, _), (8, _)] rfl
    refine then_normal ?_
    refine wp_ret ?_
    refine end_one S rfl (res_tmp rfl) ?_
    refine ⟨_, rfl, M.below, ?_⟩
    unfold BlockedP
    rw [if_neg (by rw [h10]; decide)]
    clear S M
    first
      | exact ⟨fun h => ⟨k, q, (hkq (by omega)).1, (hkq (by omega)).2, h⟩, fun ⟨k', q', e1, e2, h⟩ => by
          obtain ⟨e3, e4⟩ := hkq (by omega)
          rw [e3] at e1
          obtain rfl : k = k' := by have := Option.some.inj e1; omega
          rw [e4] at e2; obtain rfl := Option.some.inj e2; exact h⟩
      | exact ⟨fun h => (by cases h), fun ⟨k', q', e1, _⟩ => by have := (List.getElem?_eq_some_iff.1 e1).1; omega⟩
  clear S; intro h26 S
  refine k_pure (listed' := #[true, true, true, true, true, false, false, false, false, false, false, false, false, false]) 4 S rfl rfl rfl rfl (by kernel_rfl) rfl (fun _ d _ _ _ h => by cases d <;> exact h) (fun w => y_move S rfl) ?_; clear S a; intro a S
  refine k_pure (listed' := #[true, true, true, true, true, true, false, false, false, false, false, false, false, false]) 5 S rfl rfl rfl rfl (by kernel_rfl) rfl (fun _ d _ _ _ h => by cases d <;> exact h) (fun w => y_move S rfl) ?_; clear S a; intro a S
  refine k_read (listed' := #[true, true, true, true, true, true, true, false, false, false, false, false, false, false]) 6 S rfl rfl rfl rfl (by kernel_rfl) rfl (fun _ d _ _ _ h => by cases d <;> exact h) (fun w hW => have M := M.grow hW; y_indexR (e := 3) (sz := 1) S (by kernel_rfl) rfl ((M.arg hu)) rfl (by first | omega | (simp; done) | (simp; omega))) ?_; clear S a; intro a S
  refine k_read (listed' := #[true, true, true, true, true, true, true, true, false, false, false, false, false, false]) 7 S rfl rfl rfl rfl (by kernel_rfl) rfl (fun _ d _ _ _ h => by cases d <;> exact h) (fun w hW => have M := M.grow hW; y_load S (by kernel_rfl) rfl ((M.arg hu).icell (i := 0) (hkq (by omega)).1)) ?_; clear S a; intro a S
  refine k_read (listed' := #[true, true, true, true, true, true, true, true, true, false, false, false, false, false]) 8 S rfl rfl rfl rfl (by kernel_rfl) rfl (fun _ d _ _ _ h => by cases d <;> exact h) (fun w hW => have M := M.grow hW; y_indexR (e := 37) (sz := 5) S (by kernel_rfl) rfl ((M.arg hv)) rfl (by first | omega | (simp; done) | (simp; omega))) ?_; clear S a; intro a S
  try simp only [Int.toNat_natCast, Nat.mul_one, Nat.zero_add] at S
  refine k_read (listed' := #[true, true, true, true, true, true, true, true, true, true, false, false, false, false]) 9 S rfl rfl rfl rfl (by kernel_rfl) rfl (fun _ d _ _ _ h => by cases d <;> exact h) (fun w hW => have M := M.grow hW; y_loadAgg S (by kernel_rfl) rfl rfl ((M.arg hv).at_.row (i := k) (lcells_get (hkq (by omega)).2) rfl)) ?_; clear S a; intro a S
  refine k_read (listed' := #[true, true, true, true, true, true, true, true, true, true, true, false, false, false]) 10 S rfl rfl rfl rfl (by kernel_rfl) rfl (fun _ d _ _ _ h => by cases d <;> exact h) (fun w hW => have M := M.grow hW; y_loadAgg (cs := [_, _, _, _, _]) S (by kernel_rfl) rfl rfl (M.cellsAt (k := 5) 0 rfl rfl)) ?_; clear S a; intro a S
  refine k_one (listed' := #[true, true, true, true, true, true, true, true, true, true, true, true, false, false]) 11 rfl (by kernel_rfl) rfl ?_
  refine st_call (xs := [(Operand.tmp 32), (Operand.tmp 33)]) S (enters_of Try.func41 (by decide) rfl) rfl rfl rfl (conf_any q x _) ?_
  rintro _ w3 ⟨rfl, hK⟩; refine ⟨_, rfl, ?_⟩; clear S a; intro a S; replace M := M.grow hK
  refine wpList_nil ?_; refine then_normal ?_; refine ⟨fun _ => hK, ?_⟩
  refine k_pure (listed' := #[true, true, true, true, true, true, true, true, true, true, true, true, true, false]) 12 S rfl rfl rfl rfl (by kernel_rfl) rfl (fun _ d _ _ _ h => by cases d <;> exact h) (fun w => y_pickT S rfl rfl) ?_; clear S a; intro a S
  refine k_pure (listed' := #[true, true, true, true, true, true, true, true, true, true, true, true, true, true]) 13 S rfl rfl rfl rfl (by kernel_rfl) rfl (fun _ d _ _ _ h => by cases d <;> exact h) (fun w => y_assign S rfl) ?_; clear S a; intro a S
  refine k_end (by kernel_rfl) ?_
  replace S := S.sub [(0, _), (1, _), (2, _), (3, _), (7, _), (10, _), (8, _)] rfl
  refine then_normal ?_
  refine wp_ret ?_
  refine end_one S rfl (res_tmp rfl) ?_
  refine ⟨_, rfl, M.below, ?_⟩
  unfold BlockedP
  rw [if_neg (by rw [h10]; decide)]
  clear S M
  first
    | exact ⟨fun h => ⟨k, q, (hkq (by omega)).1, (hkq (by omega)).2, h⟩, fun ⟨k', q', e1, e2, h⟩ => by
        obtain ⟨e3, e4⟩ := hkq (by omega)
        rw [e3] at e1
        obtain rfl : k = k' := by have := Option.some.inj e1; omega
        rw [e4] at e2; obtain rfl := Option.some.inj e2; exact h⟩
    | exact ⟨fun h => (by cases h), fun ⟨k', q', e1, _⟩ => by have := (List.getElem?_eq_some_iff.1 e1).1; omega⟩

end Go.Proofs.Ytcbofgcmfkcglaa
