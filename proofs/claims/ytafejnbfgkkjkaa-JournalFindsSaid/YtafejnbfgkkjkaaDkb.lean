/-
  Package disk: New, is, Up, Write.
-/
import Derived.Test.YtafejnbfgkkjkaaDka
namespace Go.Proofs.Ytafejnbfgkkjkaa
open Go.RowKit Go.Sort
variable {w0 w : World} {H A : List Ent}

theorem keyJ : KeyT Try.prog 3 eJ := key_int Try.underlying3
set_option maxRecDepth 100000 in
theorem zero_sl (w : World) : (zeroValue 22).run Try.prog w = .ok (.slice none 0 0) w := by
  obtain ⟨i, hi, hz⟩ : ∃ i, Try.prog.info? 22 = some i ∧ i.zero = some (.slice none 0 0) := by
    refine ⟨_, rfl, ?_⟩
    kernel_rfl
  simp [zeroValue, typeInfo, hi, hz, go_sem]
theorem is_any (k : Int) (w : World) : Calls Try.prog 43 #[.int .i64 k] w fun e w' => e = .returned (.bool (decide (0 ≤ k ∧ k < 34))) ∧ Below w.heap.size w w' := by
  have M := Mem.start w
  refine calls_enter Try.func43 rfl 9 rfl rfl ?_; intro a S
  refine nxD ?_
  refine st_go [1] S rfl (by kernel_rfl) ?_; clear S a; intro a S
  refine nxA ?_
  refine st_go [1, 1, 1] S rfl (by kernel_rfl) ?_; clear S a; intro a S
  refine st_if (t := 5) S rfl ?_ ?_
  · clear S; intro h5 S
    refine st_go [1, 1, 1, 1] S rfl (by kernel_rfl) ?_; clear S a; intro a S
    refine nxC ?_
    refine wp_ret ?_
    refine end_one S rfl (res_tmp rfl) ?_
    refine ⟨ret_bool ?_, M.below⟩; clear S M; rw [Bool.eq_iff_iff]; simp only [decide_eq_true_eq]; first | omega | (simp; omega)
  clear S; intro h5 S
  refine st_go [0, 0, 1, 1] S rfl (by kernel_rfl) ?_; clear S a; intro a S
  refine nxC ?_
  refine wp_ret ?_
  refine end_one S rfl (res_tmp rfl) ?_
  refine ⟨ret_bool ?_, M.below⟩; clear S M; rw [Bool.eq_iff_iff]; simp only [decide_eq_true_eq]; first | omega | (simp; omega)
/-- a sector of the map, brought to the front -/
theorem Dk.open {D : Dk} (O : D.Ok) (k : Int) (hk : 0 ≤ k ∧ k < 34) (M : Mem w0 w (D.ents ++ A)) :
    ∃ (P Q : List Sec) (s : Sec), s.key = k ∧ (D.secs = P ++ s :: Q ∨ (D.secs = P ++ Q ∧ s.ws = [])) ∧ ((P ++ s :: Q).map Sec.key).Nodup ∧ (getM D.ml k).getD (.slice none 0 0) = s.val ∧ cacheOf D.secs k = s.ws.map RB.bs ∧ (∀ r ∈ s.ws, r.bs.length = 64) ∧
      Mem w0 w (.blk D.b (dcells D.dur D.m D.down).toArray 50 :: mapX D.m D.ml D.cl :: s.ent :: (s.ws.map RB.ent ++ secsE (P ++ Q) ++ A)) := by
  cases hs : secOf D.secs k with
  | some s =>
    obtain ⟨P, Q, e, hkey⟩ := secOf_some hs
    refine ⟨P, Q, s, hkey, .inl e, by rw [← e]; exact O.nodup, by rw [O.tell, hs]; rfl, by unfold cacheOf; rw [hs], fun r hr => (O.sec s (by rw [e]; simp)).2.2 r hr, ?_⟩
    refine M.perm ?_
    unfold Dk.ents
    rw [e]
    refine List.Perm.cons _ (List.Perm.cons _ ?_)
    have := (secsE_mid P Q s).append_right A
    unfold Sec.ents at this
    simp only [List.cons_append, List.append_assoc] at this
    simp only [List.append_assoc]
    exact this
  | none =>
    have hno := secOf_none.1 hs
    refine ⟨D.secs, [], ⟨k, w.heap.size, w.heap.size, none, 0, []⟩, rfl, .inr ⟨by simp, rfl⟩, ?_, by rw [O.tell, hs]; rfl, by unfold cacheOf; rw [hs]; rfl, fun r hr => (by cases hr), ?_⟩
    · rw [List.map_append, List.nodup_append]
      refine ⟨O.nodup, by simp, fun x hx y hy e => ?_⟩
      simp at hy; subst hy; subst e
      obtain ⟨t, ht, e⟩ := List.mem_map.1 hx
      exact hno t ht e
    · have M1 := M.rowNil 32 1
      refine M1.perm ?_
      simp only [List.append_nil, List.map_nil, List.nil_append]
      unfold Dk.ents
      exact (List.Perm.swap _ _ _).trans (List.Perm.cons _ (List.Perm.swap _ _ _))
/-- a write more of a sector -/
def DS.write (S : DS) (k : Int) (bs : List UInt8) : DS := { S with cache := fun j => if j = k then S.cache k ++ [bs] else S.cache j }
def Dk.put (D : Dk) (k : Int) (P Q : List Sec) (s : Sec) : Dk := ⟨D.b, D.m, (putM eJ D.ml D.cl k s.val).2, (putM eJ D.ml D.cl k s.val).1, D.dur, D.down, P ++ s :: Q⟩
theorem Dk.close {D : Dk} (O : D.Ok) {P Q : List Sec} {s s' : Sec} {r : RB} {k : Int} (hk : 0 ≤ k ∧ k < 34) (hkey : s.key = k) (hsec : D.secs = P ++ s :: Q ∨ (D.secs = P ++ Q ∧ s.ws = [])) (hnd : ((P ++ s :: Q).map Sec.key).Nodup) (hca : cacheOf D.secs k = s.ws.map RB.bs) (h64 : ∀ r ∈ s.ws, r.bs.length = 64)
    (hs'k : s'.key = k) (hs' : s'.ws = s.ws ++ [r]) (hr : r.bs.length = 64)
    (M : Mem w0 w (.blk D.b (dcells D.dur D.m D.down).toArray 50 :: mapX D.m (putM eJ D.ml D.cl k s'.val).1 (putM eJ D.ml D.cl k s'.val).2 :: s'.ent :: r.ent :: (s.ws.map RB.ent ++ secsE (P ++ Q) ++ A))) :
    ∃ E, DkE D.b (D.st.write k r.bs) E ∧ Mem w0 w (E ++ A) := by
  have hnd' : ((P ++ s' :: Q).map Sec.key).Nodup := by
    rw [List.map_append, List.map_cons] at hnd ⊢
    rw [hs'k, ← hkey]; exact hnd
  have hold : ∀ j, j ≠ k → secOf D.secs j = secOf (P ++ Q) j := fun j hj => by
    rcases hsec with e | ⟨e, -⟩
    · rw [e, secOf_mid hnd, if_neg (by rw [hkey]; exact hj)]
    · rw [e]
  refine ⟨(D.put k P Q s').ents, ⟨D.put k P Q s', rfl, ⟨O.dur, O.good.put _ _, hnd', fun j => ?_, fun t ht => ?_⟩, ?_, rfl⟩, ?_⟩
  · show getM (putM eJ D.ml D.cl k s'.val).1 j = (secOf (P ++ s' :: Q) j).map Sec.val
    rw [get_putJ, secOf_mid hnd']
    by_cases e : j = k
    · subst e; rw [if_pos rfl, if_pos hs'k.symm]; rfl
    · rw [if_neg e, if_neg (by rw [hs'k]; exact e), O.tell, hold j e]
  · replace ht : t ∈ P ++ s' :: Q := ht
    rcases List.mem_append.1 ht with h | h
    · exact O.sec t (by rcases hsec with e | ⟨e, -⟩ <;> rw [e] <;> simp [h])
    · rcases List.mem_cons.1 h with rfl | h
      · refine ⟨by rw [hs'k]; exact hk, by rw [hs']; simp, fun q hq => ?_⟩
        rw [hs'] at hq
        rcases List.mem_append.1 hq with hq | hq
        · exact h64 q hq
        · rw [List.mem_singleton.1 hq]; exact hr
      · exact O.sec t (by rcases hsec with e | ⟨e, -⟩ <;> rw [e] <;> simp [h])
  · unfold Dk.st DS.write Dk.put
    simp only
    congr 1
    funext j
    unfold cacheOf at hca ⊢
    rw [secOf_mid hnd']
    by_cases e : j = k
    · subst e
      rw [if_pos hs'k.symm, if_pos rfl, hca]
      simp [hs']
    · rw [if_neg (by rw [hs'k]; exact e), if_neg e, ← hold j e]
  · refine M.perm ?_
    unfold Dk.ents Dk.put
    refine List.Perm.cons _ (List.Perm.cons _ ?_)
    have h1 := ((secsE_mid P Q s').append_right A).symm
    refine List.Perm.trans ?_ h1
    unfold Sec.ents
    rw [hs', List.map_append, List.map_cons, List.map_nil]
    simp only [List.cons_append, List.append_assoc, List.nil_append]
    exact List.Perm.cons _ List.perm_middle.symm

end Go.Proofs.Ytafejnbfgkkjkaa
