/-
  Package disk: Crash.
-/
import Derived.Test.YtafejnbfgkkjkaaDkf
namespace Go.Proofs.Ytafejnbfgkkjkaa
open Go.RowKit Go.Sort

/-- the bytes that a crash keeps, with their sectors -/
def keptB (c : Int → List (List UInt8)) : List (Int × Int) → List Int → List (Nat × List UInt8)
  | [], _ => []
  | p :: l, told => if (0 ≤ p.1 ∧ p.1 < 34) ∧ p.1 ∉ told then (match if 1 ≤ p.2 then (c p.1)[(p.2 - 1).toNat]? else none with
      | some r => [(p.1.toNat, r)]
      | none => []) ++ keptB c l (p.1 :: told) else keptB c l told
def durK (dur : Nat → List UInt8) (l : List (Nat × List UInt8)) : Nat → List UInt8 := l.foldl (fun d x j => if j = x.1 then x.2 else d j) dur
def DS.crash (S : DS) (plan : List (Int × Int)) : DS := ⟨durK S.dur (keptB S.cache plan []), fun _ => [], true⟩
theorem kept_plain (secs : List Sec) : ∀ (plan : List (Int × Int)) (told : List Int), (keptP secs plan told).map (fun x => (x.1, x.2.bs)) = keptB (cacheOf secs) plan told
  | [], _ => rfl
  | p :: l, told => by
    unfold keptP keptB
    split
    · rw [List.map_append, kept_plain secs l]
      congr 1
      unfold keptAt cacheOf
      cases hs : secOf secs p.1 with
      | none => simp
      | some s =>
        simp only
        by_cases h1 : 1 ≤ p.2
        · rw [if_pos h1, if_pos h1, List.getElem?_map]
          cases s.ws[(p.2 - 1).toNat]? <;> rfl
        · rw [if_neg h1, if_neg h1]; rfl
    · exact kept_plain secs l told
theorem keptP_mem {secs : List Sec} : ∀ {plan : List (Int × Int)} {told : List Int} {x : Nat × RB}, x ∈ keptP secs plan told → x.1 < 34 ∧ ∃ s ∈ secs, x.2 ∈ s.ws
  | [], _, x, h => by cases h
  | p :: l, told, x, h => by
    unfold keptP at h
    split at h
    · rename_i hc
      rcases List.mem_append.1 h with h | h
      · unfold keptAt at h
        cases hs : secOf secs p.1 with
        | none => rw [hs] at h; cases h
        | some s =>
          rw [hs] at h
          obtain ⟨P, Q, e, -⟩ := secOf_some hs
          simp only at h
          split at h
          · rename_i r hr
            rw [List.mem_singleton] at h; subst h
            refine ⟨by have := hc.1; simp only; omega, s, by rw [e]; simp, ?_⟩
            split at hr
            · exact List.mem_of_getElem? hr
            · cases hr
          · cases h
      · exact keptP_mem h
    · exact keptP_mem h
theorem kept_any (b : Nat) (pa : Option Addr) (pn pc : Nat) (w : World) : Calls Try.prog 24 #[.pointer (some ⟨b, 0, none⟩), .slice pa pn pc] w fun e w' => ∃ bp bd, e = .returned (.func (.func 42) #[] #[.pointer (some ⟨bp, 0, none⟩), .pointer (some ⟨bd, 0, none⟩)]) ∧ Mem w w' [.blk bp #[.slice pa pn pc] 37, .blk bd #[.pointer (some ⟨b, 0, none⟩)] 24] := by
  have M := Mem.start w
  refine calls_enter Try.func24 rfl 6 rfl rfl ?_; intro a S
  refine nxD ?_
  refine st_box S M rfl rfl rfl #[_] rfl ?_; clear S M a; intro a w1 bD S M hB
  refine st_box S M rfl rfl rfl #[_] rfl ?_; clear S M a; intro a w2 bP S M hB
  refine st_go [1] S rfl (by kernel_rfl) ?_; clear S a; intro a S
  refine nxA ?_
  refine st_y S rfl rfl rfl (y_makeFunc (fs := []) (cs := [(Operand.tmp 3), (Operand.tmp 2)]) S rfl rfl) ?_; clear S a; intro a S
  refine st_go [1] S rfl (by kernel_rfl) ?_; clear S a; intro a S
  refine nxC ?_
  refine wp_ret ?_
  refine end_one S rfl (res_tmp rfl) ?_
  exact ⟨bP, bD, rfl, M⟩
theorem durK_snoc (dur : Nat → List UInt8) (l : List (Nat × List UInt8)) (x : Nat × List UInt8) (j : Nat) : durK dur (l ++ [x]) j = if j = x.1 then x.2 else durK dur l j := by unfold durK; rw [List.foldl_append]; rfl
set_option maxHeartbeats 2000000 in
theorem crash_any {wc w : World} {A E : List Ent} {b : Nat} {S0 : DS} (pa : Option Addr) (pc : Nat) (plan : List (Int × Int)) (hE : DkE b S0 E) (M : Mem wc w (A ++ E)) (hp : ∀ W, Mem wc W A → Rd 0 W.heap.size W 2 (.slice pa plan.length pc) plan.length (kcells plan)) (hup : S0.down = false) (hw : ∀ k, (S0.cache k).length ≤ 1000000) :
    Calls Try.prog 12 #[.pointer (some ⟨b, 0, none⟩), .slice pa plan.length pc] w fun e w' => e = .returned (.int .i64 0) ∧ ∃ E', DkE b (S0.crash plan) E' ∧ Mem wc w' (A ++ E') := by
  obtain ⟨D, rfl, O, rfl, rfl⟩ := hE
  replace M := M.perm List.perm_append_comm
  have hd : D.down = false := hup
  have hsl : ∀ s ∈ D.secs, s.ws.length ≤ 1000000 := fun s hs => by
    have h1 := hw s.key
    obtain ⟨P, Q, e⟩ := List.append_of_mem hs
    have h2 := secOf_mid (by rw [← e]; exact O.nodup) (P := P) (Q := Q) (s := s) s.key
    rw [if_pos rfl, ← e] at h2
    unfold Dk.st cacheOf at h1
    simp only [h2, List.length_map] at h1
    exact h1
  replace M : Mem wc w (.blk D.b (dcells D.dur D.m D.down).toArray 50 :: mapX D.m D.ml D.cl :: (secsE D.secs ++ A)) := M
  refine calls_enterM Try.func12 rfl 33 rfl rfl ?_; intro a S
  refine wp_seq ?_
  skip
  refine wp_region_lit ?_
  refine st_box S M rfl rfl rfl #[_] rfl ?_; clear S M a; intro a w1 bB S M hB
  refine st_go [1] S rfl (by kernel_rfl) ?_; clear S a; intro a S
  refine nxC ?_
  refine wp_seq ?_
  refine nxD ?_
  refine st_run [1] S M rfl (by kernel_rfl) ?_; clear S a; intro a S
  refine st_y S rfl rfl rfl (y_eqlPS (by kernel_rfl) S rfl) ?_; clear S a; intro a S
  refine nxC ?_
  refine st_condF S rfl ?_
  refine wp_skip ?_
  refine then_normal ?_
  refine wp_seq ?_
  refine nxD ?_
  refine st_run [1] S M rfl (by kernel_rfl) ?_; clear S a; intro a S
  skip
  refine st_y S rfl rfl rfl (y_nilCheck S rfl) ?_; clear S a; intro a S
  refine st_go [2178] S rfl (by kernel_rfl) ?_; clear S a; intro a S
  refine st_y S rfl rfl rfl (y_load S (by kernel_rfl) rfl (M.cell 1 rfl ((dcells_down O.dur _ _).trans (by rw [hd])))) ?_; clear S a; intro a S
  refine nxC ?_
  refine st_if (t := 12) S rfl ?_ ?_
  · clear S; intro h12 S
    cases h12
  clear S; intro h12 S
  refine st_condF S rfl ?_
  refine wp_skip ?_
  refine then_normal ?_
  refine wp_seq ?_
  refine nxD ?_
  refine st_run [1, 1] S M rfl (by kernel_rfl) ?_; clear S a; intro a S
  refine st_call (xs := [(Operand.tmp 13), (Operand.tmp 14)]) S (enters_of Try.func24 (by decide) rfl) rfl rfl rfl (kept_any D.b pa plan.length pc _) ?_
  rintro _ w2 ⟨bp, bd, rfl, M1⟩; refine ⟨_, rfl, ?_⟩; clear S a; intro a S; replace M := M.join M1; clear M1
  simp only [List.cons_append, List.nil_append] at M
  refine nxC ?_
  refine wp_block ?_
  refine wp_rangeB (encs := encK) (xs := keptP D.secs plan []) S M rfl (enters_of Try.func42 (by decide) rfl) (kept1_gen O bp bd pa pc plan) (fun _ => rfl) (by kernel_rfl) (fun pre Hs => ∃ dur, dur.length = 2176 ∧ (∀ j, durAt dur j = durK (durAt D.dur) (pre.map fun x => (x.1, x.2.bs)) j) ∧ Hs = .blk bp #[.slice pa plan.length pc] 37 :: .blk bd #[.pointer (some ⟨D.b, 0, none⟩)] 24 :: .blk bB #[.pointer (some ⟨D.b, 0, none⟩)] 24 :: .blk D.b (dcells dur D.m D.down).toArray 50 :: mapX D.m D.ml D.cl :: (secsE D.secs ++ A)) (fun _ _ _ => False) (⟨D.dur, O.dur, fun j => rfl, rfl⟩) (fun pre Hs W TT hI M => by obtain ⟨dur, hdl, -, rfl⟩ := hI; exact ⟨⟨dur, hdl, M.blk 3 rfl⟩, M.mapAt (pos := 4) rfl, fun s hs => M.secRow (by simp [secsE_ent hs]) (hsl s hs), M.blk 0 rfl, M.blk 1 rfl, hp _ (M.sub (by simp only [List.cons_append, List.append_assoc]; exact ((List.sublist_append_left _ _).trans (List.sublist_append_right _ _)).trans (List.sublist_append_right [_, _, _, _, _] _)))⟩) ?_ ?_ ?_
  · intro lY pre x tX Hs wr TT a hx hI M S
    simp only [putsL, encK] at S
    obtain ⟨dur, hdl, hdat, rfl⟩ := hI
    obtain ⟨xk, xr⟩ := x
    obtain ⟨hk34, s, hsm, hrm⟩ := keptP_mem (show (xk, xr) ∈ keptP D.secs plan [] by rw [hx]; simp)
    have hr64 := (O.sec s hsm).2.2 xr hrm
    simp only [List.cons_append] at M
    refine wpIn_seq ?_
    refine wpI_region (by kernel_rfl) (fun _ _ h => h) ?_
    refine st_go [1] S rfl (by kernel_rfl) ?_; clear S a; intro a S
    refine nxC ?_
    refine wpI_region (by kernel_rfl) (fun _ _ h => h) ?_
    refine st_go [1] S rfl (by kernel_rfl) ?_; clear S a; intro a S
    refine nxC ?_
    refine ⟨_ :: _ :: _ :: _ :: _ :: (secsE D.secs ++ A), M, ?_⟩; clear M; intro wb TT M; simp only [List.cons_append, List.nil_append] at M
    refine wpIn_block ?_
    refine wpI_region (by kernel_rfl) (fun _ _ h => h) ?_
    refine st_run [3] S M rfl (by kernel_rfl) ?_; clear S a; intro a S
    skip
    refine st_y S rfl rfl rfl (y_move S rfl) ?_; clear S a; intro a S
    refine st_go [1, 1] S rfl (by kernel_rfl) ?_; clear S a; intro a S
    refine st_y S rfl rfl rfl (y_indexA (m := 34) (sz := 64) S (by kernel_rfl) rfl rfl (by first | omega | (simp; done) | (simp; omega))) ?_; clear S a; intro a S
    try simp only [Int.toNat_natCast, Nat.mul_one, Nat.zero_add] at S
    refine st_y S rfl rfl rfl (y_sliceA (m := 64) (sz := 1) S (by kernel_rfl) rfl) ?_; clear S a; intro a S
    refine st_go [1] S rfl (by kernel_rfl) ?_; clear S a; intro a S
    refine st_copy (e := 5) (us := bcells xr.bs) S M 3 rfl rfl (by kernel_rfl) rfl rfl rfl (M.readB (r := xr) (by simp [secsE_ws hsm hrm]) (by omega)) (List.take_of_length_le (by rw [bcells_length]; omega)) (allOne_bcells _) (by rw [dcells_len hdl, bcells_length]; omega) ?_; clear S M a; intro a w3 S M
    simp only [List.set_cons_zero, List.set_cons_succ] at M
    replace S := S.sub [(0, _), (1, _), (2, _), (4, _), (8, _), (12, _), (15, _), (5, _), (6, _)] rfl
    refine wpList_nil ?_
    refine block_normal ?_
    skip
    rw [dcells_put hdl hk34 hr64] at M
    refine ⟨_ :: _ :: _ :: _ :: _ :: _, M, _, dset_len hdl hk34 hr64, fun j => ?_, rfl⟩
    rw [dset_at hdl hk34 hr64, List.map_append, List.map_cons, List.map_nil, durK_snoc, hdat j]
  · intro D1 wd Hs a hI M S
    obtain ⟨dur, hdl, hdat, rfl⟩ := hI
    refine block_normal ?_
    refine nxE ?_
    refine st_run [4] S M rfl (by kernel_rfl) ?_; clear S a; intro a S
    skip
    refine st_y S rfl rfl rfl (y_nilCheck S rfl) ?_; clear S a; intro a S
    refine st_go [2177] S rfl (by kernel_rfl) ?_; clear S a; intro a S
    refine st_y S rfl rfl rfl (y_load S (by kernel_rfl) rfl (M.cell 4 rfl (dcells_map hdl _ _))) ?_; clear S a; intro a S
    refine st_clearM (pos := 5) S M Try.underlying46 rfl rfl rfl ?_; clear M; intro w4 M
    simp only [List.set_cons_zero, List.set_cons_succ] at M
    refine nxA ?_
    refine st_run [4] S M rfl (by kernel_rfl) ?_; clear S a; intro a S
    skip
    refine st_y S rfl rfl rfl (y_nilCheck S rfl) ?_; clear S a; intro a S
    refine st_go [2178] S rfl (by kernel_rfl) ?_; clear S a; intro a S
    refine st_store (us := [.bool true]) S M 4 rfl (by kernel_rfl) rfl rfl rfl rfl rfl rfl (by rw [dcells_len hdl]; decide) ?_; clear M; intro wS M
    simp only [List.set_cons_zero, List.set_cons_succ] at M
    rw [dcells_setDown hdl] at M
    refine nxA ?_
    refine st_go [1] S rfl (by kernel_rfl) ?_; clear S a; intro a S
    replace S := S.sub [(0, _), (1, _), (2, _), (8, _), (12, _), (15, _), (4, _)] rfl
    refine nxC ?_
    refine wp_ret ?_
    refine end_mark S M 0 rfl ?_; clear S M a; intro a wM S M
    simp only [List.eraseIdx_cons_succ, List.eraseIdx_cons_zero] at M
    refine end_plain ?_
    refine end_one S rfl (res_tmp rfl) ?_
    refine ⟨rfl, ?_⟩
    have hcr : D.st.crash plan = Dk.st ⟨D.b, D.m, D.cl, [], dur, true, []⟩ := by
      unfold DS.crash
      show DS.mk (durK (durAt D.dur) (keptB (cacheOf D.secs) plan [])) (fun _ => []) true = DS.mk (durAt dur) (cacheOf []) true
      rw [← kept_plain]
      congr 1
      funext j; exact (hdat j).symm
    rw [hcr]
    refine ⟨_, ⟨⟨D.b, D.m, D.cl, [], dur, true, []⟩, rfl, ⟨hdl, good_nil _, .nil, fun _ => rfl, fun s hs => (by cases hs)⟩, rfl, rfl⟩, ?_⟩
    exact (M.sub (H' := Dk.ents ⟨D.b, D.m, D.cl, [], dur, true, []⟩ ++ A) (.cons _ (.cons _ (.cons _ (.cons_cons _ (.cons_cons _ (List.sublist_append_right _ _))))))).perm List.perm_append_comm
  intro D1 wd Hs a cX pre x tX hx hX M S
  exact hX.elim

end Go.Proofs.Ytafejnbfgkkjkaa
