/-
  law06, plainly: a log of records of one incarnation; what lies in memory of rows of bytes.
-/
import Derived.Test.YtafejnbfgkkjkaaJh
namespace Go.Proofs.Ytafejnbfgkkjkaa
open Go.RowKit Go.Sort

/-- the disk S holds, from t on, these records of the incarnation inc, of whose sectors c were flushed -/
structure JLog (S : DS) (t inc : Int) (put : List (List UInt8)) (c : Nat) : Prop where
  inv : JInv S t (framesL inc t put) c
  ok : ∀ p ∈ beginsL t put, cutOk p.2 p.1 inc
  up : S.down = false
  small : ∀ k, (S.cache k).length ≤ (framesL inc t put).length
theorem JLog.start (t inc : Int) : JLog DS.new t inc [] 0 := ⟨JInv.start t, fun p hp => (by cases hp), rfl, fun k => Nat.zero_le _⟩
/-- where the next record begins -/
abbrev JLog.nx (t inc : Int) (put : List (List UInt8)) : Int := t + ((framesL inc t put).length : Nat)
theorem JLog.may {S : DS} {t inc : Int} {put : List (List UInt8)} {c : Nat} (h : JLog S t inc put c) (ht : 1 ≤ t ∧ t ≤ 1073741824) : mayL t (JLog.nx t inc put) := by
  have := h.inv.len
  unfold JLog.nx
  omega
theorem JLog.cache {S : DS} {t inc : Int} {put : List (List UInt8)} {c : Nat} (h : JLog S t inc put c) (k : Int) : (S.cache k).length ≤ 24 := Nat.le_trans (h.small k) h.inv.len
theorem framesL_snoc (inc t : Int) (put : List (List UInt8)) (b : List UInt8) : framesL inc t (put ++ [b]) = framesL inc t put ++ cutF b (JLog.nx t inc put) inc := by
  rw [framesL_append]; simp [framesL]
theorem beginsL_snoc (inc t : Int) (put : List (List UInt8)) (b : List UInt8) : beginsL t (put ++ [b]) = beginsL t put ++ [(JLog.nx t inc put, b)] := by
  rw [beginsL_append inc]; simp [beginsL]
theorem nx_snoc (inc t : Int) (put : List (List UInt8)) (b : List UInt8) : JLog.nx t inc (put ++ [b]) = JLog.nx t inc put + (nOf b.length : Nat) := by
  unfold JLog.nx; rw [framesL_snoc, List.length_append, cutF_length]; omega
theorem JLog.app {S S1 : DS} {t inc n' er : Int} {put : List (List UInt8)} {c : Nat} {bs : List UInt8} (h : JLog S t inc put c) (ht : 1 ≤ t ∧ t ≤ 1073741824) (hi : 0 ≤ inc ∧ inc ≤ 1048576) (hP : AppP t (JLog.nx t inc put) inc bs S n' er S1) :
    (er = 0 ∧ appOk t (JLog.nx t inc put) bs ∧ JLog S1 t inc (put ++ [bs]) c ∧ n' = JLog.nx t inc (put ++ [bs])) ∨ (er ≠ 0 ∧ ¬ appOk t (JLog.nx t inc put) bs ∧ S1 = S ∧ n' = JLog.nx t inc put) := by
  rcases hP with ⟨ho, rfl, rfl, rfl⟩ | ⟨ho, rfl, he, rfl⟩
  · left
    have hl := h.inv.len
    have hfit : (framesL inc t put).length + nOf bs.length ≤ 24 := by
      have := ho.2.2
      unfold JLog.nx at this; omega
    refine ⟨rfl, ho, ⟨?_, fun p hp => ?_, (putF_down _ _).trans h.up, fun k => ?_⟩, (nx_snoc _ _ _ _).symm⟩
    · rw [framesL_snoc]
      exact h.inv.steps (cutF bs _ inc) (by rw [cutF_length]; exact hfit) (fun i x hx => by rw [cutF_seq hx]; unfold JLog.nx; omega)
    · rw [beginsL_snoc inc] at hp
      rcases List.mem_append.1 hp with hp | hp
      · exact h.ok p hp
      · rw [List.mem_singleton.1 hp]
        have := nOf_le ho.2.1
        exact ⟨ho.1, by simp only; unfold JLog.nx; omega, hi, ho.2.1, by simp only; unfold JLog.nx; omega⟩
    · rw [framesL_snoc, List.length_append]
      exact putF_cache_le _ h.small k
  · exact .inr ⟨he, ho, rfl, rfl⟩
theorem JLog.flush {S : DS} {t inc : Int} {put : List (List UInt8)} {c : Nat} (h : JLog S t inc put c) : JLog S.flush t inc put (framesL inc t put).length := ⟨h.inv.flush, h.ok, h.up, fun k => Nat.zero_le _⟩
theorem put_le {inc : Int} : ∀ {t : Int} {put : List (List UInt8)}, (∀ p ∈ beginsL t put, cutOk p.2 p.1 inc) → put.length ≤ (framesL inc t put).length
  | t, [], _ => Nat.zero_le _
  | t, b :: put, h => by
    have h1 := put_le (inc := inc) (t := t + (nOf b.length : Nat)) (put := put) fun p hp => h p (by rw [beginsL]; exact List.mem_cons_of_mem _ hp)
    have h0 : cutOk b t inc := h (t, b) (by simp [beginsL])
    have h2 := cutOk_n h0
    rw [framesL, List.length_append, cutF_length, List.length_cons]
    omega
theorem JLog.puts {S : DS} {t inc : Int} {put : List (List UInt8)} {c : Nat} (h : JLog S t inc put c) : put.length ≤ 24 := Nat.le_trans (put_le h.ok) h.inv.len

/-! rows of bytes in memory -/
theorem brows_of {w0 w : World} {H : List Ent} {lo hi : Nat} {v : Value} {rs : List RB} (M : Mem w0 w H) (h : rowE lo hi 32 1 v rs.length (rs.map RB.val) ∈ H) (he : ∀ r ∈ rs, r.ent ∈ H) (hs : ∀ r ∈ rs, r.bs.length ≤ 90) (hl : rs.length ≤ 1000) : BRows w v (rs.map RB.bs) := by
  refine ⟨rs.map RB.val, by rw [List.length_map]; exact M.readIn h (by unfold maxLen; omega), fun i x bs hx hb => ?_⟩
  rw [List.getElem?_map] at hx hb
  cases hr : rs[i]? with
  | none => rw [hr] at hx; cases hx
  | some r =>
    rw [hr] at hx hb
    obtain rfl := Option.some.inj hx
    obtain rfl := Option.some.inj hb
    have hm := List.mem_of_getElem? hr
    exact M.readB (he r hm) (by have := hs r hm; omega)
/-- the values pvs read as the rows put, in the world w0 -/
def PutV (w0 : World) (pvs : List Value) (put : List (List UInt8)) : Prop := pvs.length = put.length ∧ ∀ (i : Nat) x bs, pvs[i]? = some x → put[i]? = some bs → Bs 0 w0.heap.size w0 x bs
theorem PutV.nil (w0 : World) : PutV w0 [] [] := ⟨rfl, fun i x bs h => by cases i <;> cases h⟩
theorem PutV.snoc {w0 : World} {pvs : List Value} {put : List (List UInt8)} {v : Value} {bs : List UInt8} (h : PutV w0 pvs put) (hv : Bs 0 w0.heap.size w0 v bs) : PutV w0 (pvs ++ [v]) (put ++ [bs]) := by
  refine ⟨by simp [h.1], fun i x b hx hb => ?_⟩
  rcases Nat.lt_or_ge i pvs.length with h1 | h1
  · rw [List.getElem?_append_left h1] at hx
    rw [List.getElem?_append_left (by rw [← h.1]; exact h1)] at hb
    exact h.2 i x b hx hb
  · have hi : i = pvs.length := by
      have := (List.getElem?_eq_some_iff.1 hx).1
      simp at this; omega
    subst hi
    rw [List.getElem?_append_right (Nat.le_refl _), Nat.sub_self] at hx
    rw [h.1, List.getElem?_append_right (Nat.le_refl _), Nat.sub_self] at hb
    cases hx; cases hb; exact hv
theorem brows_put {w0 w : World} {H : List Ent} {lo hi : Nat} {v : Value} {pvs : List Value} {put : List (List UInt8)} (M : Mem w0 w H) (h : rowE lo hi 32 1 v put.length pvs ∈ H) (hP : PutV w0 pvs put) (hl : put.length ≤ 1000) : BRows w v put :=
  ⟨pvs, M.readIn h (by unfold maxLen; omega), fun i x bs hx hb => M.argW (hP.2 i x bs hx hb)⟩
theorem BRows.cut {w : World} {v : Value} {bss : List (List UInt8)} (h : BRows w v bss) {i j mx : Nat} (h1 : i ≤ j) (h2 : j ≤ bss.length) (h3 : j ≤ mx) (h4 : mx ≤ capV v) : BRows w (cutV v i j mx 1) ((bss.drop i).take (j - i)) := by
  obtain ⟨vs, hR, hb⟩ := h
  have hc := hR.cutv h1 h2 h3 h4
  have hl : ((bss.drop i).take (j - i)).length = j - i := by simp; omega
  refine ⟨_, by rw [hl]; exact hc, fun k x bs hx hk => ?_⟩
  rw [Nat.mul_one, Nat.mul_one] at hx
  rcases Nat.lt_or_ge k (j - i) with h5 | h5
  · rw [List.getElem?_take_of_lt h5, List.getElem?_drop] at hx hk
    exact hb _ x bs hx hk
  · rw [List.getElem?_take_eq_none h5] at hx; cases hx
theorem BRows.cutFrom {w : World} {v : Value} {bss : List (List UInt8)} (h : BRows w v bss) {i : Nat} (h1 : i ≤ bss.length) : BRows w (cutV v i bss.length (capV v) 1) (bss.drop i) := by
  have hc : bss.length ≤ capV v := h.choose_spec.1.cap.1
  have := h.cut h1 (Nat.le_refl _) hc (Nat.le_refl _)
  rwa [List.take_of_length_le (by simp)] at this
theorem BRows.cutTo {w : World} {v : Value} {bss : List (List UInt8)} (h : BRows w v bss) {j : Nat} (h1 : j ≤ bss.length) : BRows w (cutV v 0 j (capV v) 1) (bss.take j) := by
  have hc : bss.length ≤ capV v := h.choose_spec.1.cap.1
  have := h.cut (Nat.zero_le j) h1 (by omega) (Nat.le_refl _)
  rwa [List.drop_zero, Nat.sub_zero] at this
/-- the rows that are handed in -/
structure ArgB (w : World) (v : Value) (bss : List (List UInt8)) : Prop where
  rows : BRows w v bss
theorem BRows.at {w : World} {v : Value} {bss : List (List UInt8)} (h : BRows w v bss) {i : Nat} (hi : i < bss.length) : ∃ vs x bs, Rd 0 w.heap.size w 1 v bss.length vs ∧ vs[i]? = some x ∧ bss[i]? = some bs ∧ Bs 0 w.heap.size w x bs := by
  obtain ⟨vs, hR, hb⟩ := h
  obtain ⟨x, hx⟩ : ∃ x, vs[i]? = some x := ⟨_, List.getElem?_eq_getElem (by have := hR.1; omega)⟩
  obtain ⟨bs, hbs⟩ : ∃ bs, bss[i]? = some bs := ⟨_, List.getElem?_eq_getElem hi⟩
  exact ⟨vs, x, bs, hR, hx, hbs, hb i x bs hx hbs⟩

end Go.Proofs.Ytafejnbfgkkjkaa
