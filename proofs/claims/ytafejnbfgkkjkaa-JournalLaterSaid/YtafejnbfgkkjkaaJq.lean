/-
  Journal, plainly: what the sectors hold behind appends, flushes, crashes; what is found of records of which some frames were kept.
-/
import Derived.Test.YtafejnbfgkkjkaaJp
import Derived.Test.YtafejnbfgkkjkaaJb
import Derived.Test.YtafejnbfgkkjkaaDkg
namespace Go.Proofs.Ytafejnbfgkkjkaa
open Go.RowKit Go.Sort

def durS (S : DS) (t : Int) (j : Nat) : List UInt8 := S.dur (2 + (t + (j : Int)) % 24).toNat
def cacS (S : DS) (t : Int) (j : Nat) : List (List UInt8) := S.cache (2 + (t + (j : Int)) % 24)
theorem secAt_eq (S : DS) (t : Int) (j : Nat) : secAt S t j = match (cacS S t j).getLast? with
    | some b => b
    | none => durS S t j := by
  unfold secAt DS.get cacS durS
  rw [show (((2 + (t + (j : Int)) % 24).toNat : Nat) : Int) = 2 + (t + (j : Int)) % 24 by omega]
  rfl
theorem cacS_write (S : DS) (t : Int) (bs : List UInt8) {i j : Nat} (hi : i < 24) (hj : j < 24) : cacS (S.write (2 + (t + (i : Int)) % 24) bs) t j = if j = i then cacS S t j ++ [bs] else cacS S t j := by
  unfold cacS DS.write
  simp only
  by_cases h : j = i
  · subst h; rw [if_pos rfl, if_pos rfl]
  · rw [if_neg h, if_neg (by omega)]
theorem durS_write (S : DS) (t k : Int) (bs : List UInt8) (j : Nat) : durS (S.write k bs) t j = durS S t j := rfl
theorem secAt_write (S : DS) (t : Int) (bs : List UInt8) {i j : Nat} (hi : i < 24) (hj : j < 24) : secAt (S.write (2 + (t + (i : Int)) % 24) bs) t j = if j = i then bs else secAt S t j := by
  rw [secAt_eq, secAt_eq, cacS_write S t bs hi hj, durS_write]
  by_cases h : j = i
  · rw [if_pos h, if_pos h]; simp
  · rw [if_neg h, if_neg h]
theorem durS_flush (S : DS) (t : Int) (j : Nat) : durS S.flush t j = secAt S t j := rfl
theorem secAt_flush (S : DS) (t : Int) (j : Nat) : secAt S.flush t j = secAt S t j := by rw [secAt_eq]; rfl
/-- a disk of which nothing is cached -/
def DS.still (S : DS) : Prop := ∀ k, S.cache k = []
theorem keptB_mem {c : Int → List (List UInt8)} : ∀ {plan : List (Int × Int)} {told : List Int} {x : Nat × List UInt8}, x ∈ keptB c plan told → x.2 ∈ c (x.1 : Int)
  | [], _, x, h => by cases h
  | p :: l, told, x, h => by
    unfold keptB at h
    split at h
    · rename_i hc
      rcases List.mem_append.1 h with h | h
      · split at h
        · rename_i r hr
          rw [List.mem_singleton] at h; subst h
          split at hr
          · have := List.mem_of_getElem? hr
            rw [show (((p.1.toNat : Nat)) : Int) = p.1 by have := hc.1; omega]
            exact this
          · cases hr
        · cases h
      · exact keptB_mem h
    · exact keptB_mem h
theorem snoc_rec {α : Type} {P : List α → Prop} (nil : P []) (snoc : ∀ l x, P l → P (l ++ [x])) (l : List α) : P l := by
  have : ∀ n (l : List α), l.length = n → P l := fun n => by
    induction n with
    | zero => intro l h; rw [List.eq_nil_of_length_eq_zero h]; exact nil
    | succ n ih =>
      intro l h
      have hne : l ≠ [] := fun e => by rw [e] at h; cases h
      rw [← List.dropLast_concat_getLast hne]
      exact snoc _ _ (ih _ (by rw [List.length_dropLast, h]; rfl))
  exact this _ l rfl
theorem durK_at (d : Nat → List UInt8) : ∀ (l : List (Nat × List UInt8)) (k : Nat), durK d l k = d k ∨ ∃ x ∈ l, x.1 = k ∧ durK d l k = x.2 := by
  intro l
  induction l using snoc_rec with
  | nil => exact fun k => .inl rfl
  | snoc l x ih =>
    intro k
    rw [durK_snoc]
    by_cases h : k = x.1
    · rw [if_pos h]; exact .inr ⟨x, by simp, h.symm, rfl⟩
    · rw [if_neg h]
      rcases ih k with h1 | ⟨y, h1, h2, h3⟩
      · exact .inl h1
      · exact .inr ⟨y, by simp [h1], h2, h3⟩
/-- what a crash leaves of a sector -/
theorem crash_at (S : DS) (plan : List (Int × Int)) (t : Int) (j : Nat) : secAt (S.crash plan) t j = durS S t j ∨ secAt (S.crash plan) t j ∈ cacS S t j := by
  have e : secAt (S.crash plan) t j = durK S.dur (keptB S.cache plan []) (2 + (t + (j : Int)) % 24).toNat := rfl
  rw [e]
  rcases durK_at S.dur (keptB S.cache plan []) (2 + (t + (j : Int)) % 24).toNat with h | ⟨x, h1, h2, h3⟩
  · exact .inl h
  · right
    rw [h3]
    have := keptB_mem h1
    rw [h2, show (((2 + (t + (j : Int)) % 24).toNat : Nat) : Int) = 2 + (t + (j : Int)) % 24 by omega] at this
    exact this
theorem secAt_up (S : DS) (t : Int) (j : Nat) : secAt { S with down := false } t j = secAt S t j := rfl
theorem secsOf_get (S : DS) (t : Int) {j : Nat} (h : j < 24) : (secsOf S t)[j]? = some (secAt S t j) := by unfold secsOf; simp [h]
theorem secsOf_len (S : DS) (t : Int) : (secsOf S t).length = 24 := by simp [secsOf]
theorem secAt_new (t : Int) (j : Nat) : secAt DS.new t j = zero64 := by
  unfold secAt DS.get DS.new zero64 durAt
  simp only [List.getLast?_nil]
  rw [List.drop_replicate, List.take_replicate]
  congr 1
  omega

structure JInv (S : DS) (t : Int) (G : List FrB) (c : Nat) : Prop where
  len : G.length ≤ 24
  le : c ≤ G.length
  old : ∀ j x, j < c → G[j]? = some x → durS S t j = secB x ∧ cacS S t j = []
  new : ∀ j, c ≤ j → j < 24 → durS S t j = zero64 ∧ cacS S t j = (match G[j]? with
    | some x => [secB x]
    | none => [])
theorem JInv.start (t : Int) : JInv DS.new t [] 0 := ⟨Nat.zero_le _, Nat.le_refl _, fun j x h => by omega, fun j _ _ => ⟨by have := secAt_new t j; rw [secAt_eq] at this; exact this, rfl⟩⟩
theorem JInv.at {S : DS} {t : Int} {G : List FrB} {c : Nat} (h : JInv S t G c) {j : Nat} (hj : j < 24) : secAt S t j = match G[j]? with
    | some x => secB x
    | none => zero64 := by
  rw [secAt_eq]
  rcases Nat.lt_or_ge j c with h1 | h1
  · obtain ⟨x, hx⟩ : ∃ x, G[j]? = some x := ⟨_, List.getElem?_eq_getElem (by have := h.le; omega)⟩
    obtain ⟨h2, h3⟩ := h.old j x h1 hx
    rw [h3, hx]; exact h2
  · obtain ⟨h2, h3⟩ := h.new j h1 hj
    rw [h3]
    cases hx : G[j]? with
    | none => exact h2
    | some x => rfl
theorem JInv.step {S : DS} {t : Int} {G : List FrB} {c : Nat} (h : JInv S t G c) (x : FrB) (hl : G.length < 24) (hx : x.1.seq = t + (G.length : Int)) : JInv (S.write (2 + x.1.seq % 24) (secB x)) t (G ++ [x]) c := by
  refine ⟨by rw [List.length_append]; exact hl, by rw [List.length_append]; have := h.le; omega, fun j y hj hy => ?_, fun j hj hj2 => ?_⟩
  · have hlt : j < G.length := by have := h.le; omega
    rw [List.getElem?_append_left hlt] at hy
    rw [hx, durS_write, cacS_write S t _ hl (by omega), if_neg (by omega)]
    exact h.old j y hj hy
  · rw [hx, durS_write, cacS_write S t _ hl hj2]
    obtain ⟨h2, h3⟩ := h.new j hj hj2
    refine ⟨h2, ?_⟩
    by_cases e : j = G.length
    · subst e
      rw [if_pos rfl, h3]; simp
    · rw [if_neg e, h3]
      rcases Nat.lt_or_ge j G.length with h4 | h4
      · rw [List.getElem?_append_left h4]
      · rw [List.getElem?_eq_none h4, List.getElem?_eq_none (by rw [List.length_append]; simp; omega)]
theorem JInv.flush {S : DS} {t : Int} {G : List FrB} {c : Nat} (h : JInv S t G c) : JInv S.flush t G G.length := by
  refine ⟨h.len, Nat.le_refl _, fun j x hj hx => ?_, fun j hj hj2 => ?_⟩
  · rw [durS_flush, h.at (by have := h.len; omega), hx]; exact ⟨rfl, rfl⟩
  · rw [durS_flush, h.at hj2, List.getElem?_eq_none hj]; exact ⟨rfl, rfl⟩
theorem JInv.steps {t : Int} {c : Nat} : ∀ (fs : List FrB) {S : DS} {G : List FrB}, JInv S t G c → G.length + fs.length ≤ 24 → (∀ i x, fs[i]? = some x → x.1.seq = t + ((G.length + i : Nat) : Int)) → JInv (putF S fs) t (G ++ fs) c
  | [], S, G, h, _, _ => by rw [List.append_nil]; exact h
  | x :: fs, S, G, h, hl, hs => by
    rw [List.length_cons] at hl
    have h1 := h.step x (by omega) (by have := hs 0 x rfl; simpa using this)
    have h2 := JInv.steps fs h1 (by rw [List.length_append]; simp; omega) (fun i y hy => by
      have := hs (i + 1) y hy
      rw [this, List.length_append]; simp; omega)
    rw [List.append_assoc, List.singleton_append] at h2
    exact h2
theorem cutF_seq {r : List UInt8} {q inc : Int} {i : Nat} {x : FrB} (h : (cutF r q inc)[i]? = some x) : x.1.seq = q + (i : Int) := by
  unfold cutF at h
  rw [List.getElem?_map] at h
  cases hi : (List.range (nOf r.length))[i]? with
  | none => rw [hi] at h; cases h
  | some k =>
    rw [hi] at h
    have : k = i := by
      have := (List.getElem?_eq_some_iff.1 hi).2
      simpa using this.symm
    subst this
    cases h; rfl
theorem framesL_get (inc : Int) : ∀ (q : Int) (rs : List (List UInt8)) {i : Nat} {x : FrB}, (framesL inc q rs)[i]? = some x → x.1.seq = q + (i : Int) ∧ x.1.inc = inc
  | q, [], i, x, h => by simp [framesL] at h
  | q, r :: rs, i, x, h => by
    rw [framesL] at h
    rcases Nat.lt_or_ge i (cutF r q inc).length with h1 | h1
    · rw [List.getElem?_append_left h1] at h
      refine ⟨cutF_seq h, ?_⟩
      have := List.mem_of_getElem? h
      unfold cutF at this
      obtain ⟨k, -, rfl⟩ := List.mem_map.1 this
      rfl
    · rw [List.getElem?_append_right h1] at h
      obtain ⟨h2, h3⟩ := framesL_get inc _ rs h
      rw [cutF_length] at h1 h2
      exact ⟨by rw [h2]; omega, h3⟩
/-- what is found, if some frames were not kept -/
theorem scan_kept : ∀ (rs : List (List UInt8)) {q inc inc' : Int} {l : List (Int × List UInt8)} {xs : List (List UInt8)}, inc ≤ inc' → (∀ p ∈ beginsL q rs, cutOk p.2 p.1 inc') → (framesL inc' q rs).length ≤ xs.length →
    (∀ (j : Nat) x y, xs[j]? = some y → (framesL inc' q rs)[j]? = some x → y = secB x ∨ readF y = none) → (∀ (j : Nat) y, xs[j]? = some y → (framesL inc' q rs).length ≤ j → readF y = none) →
    ∃ k, k ≤ rs.length ∧ (scanP ⟨q, inc, [], l, q⟩ xs).l = l ++ beginsL q (rs.take k) ∧ (scanP ⟨q, inc, [], l, q⟩ xs).next = q + ((framesL inc' q (rs.take k)).length : Nat) ∧ (∀ m, m ≤ rs.length → (∀ (j : Nat) x y, j < (framesL inc' q (rs.take m)).length → xs[j]? = some y → (framesL inc' q rs)[j]? = some x → y = secB x) → m ≤ k) ∧ ∀ (j : Nat) x y, j < (framesL inc' q (rs.take k)).length → xs[j]? = some y → (framesL inc' q rs)[j]? = some x → y = secB x
  | [], q, inc, inc', l, xs, _, _, _, _, hno => by
    have he : Ends q inc xs := fun x t hx f ld hf => by
      have := hno 0 x (by rw [hx]; rfl) (by simp [framesL])
      rw [this] at hf; cases hf
    obtain ⟨h1, h2⟩ := scan_end (nx := q) (l := l) he
    exact ⟨0, Nat.le_refl _, by rw [h1]; simp [beginsL], by rw [h2]; simp [framesL], fun m hm _ => hm, fun j x y hj => by simp [framesL] at hj⟩
  | r :: rs, q, inc, inc', l, xs, hi, hok, hlen, hin, hno => by
    have hc : cutOk r q inc' := hok (q, r) (by simp [beginsL])
    have hn := cutOk_n hc
    have hFl : (framesL inc' q (r :: rs)).length = nOf r.length + (framesL inc' (q + (nOf r.length : Nat)) rs).length := by rw [framesL, List.length_append, cutF_length]
    have hF : ∀ i, i < nOf r.length → (framesL inc' q (r :: rs))[i]? = some (frOf r q inc' i) := fun i h => by
      rw [framesL, List.getElem?_append_left (by rw [cutF_length]; exact h)]; unfold cutF; simp [h]
    by_cases hall : ∀ (j : Nat) y, j < nOf r.length → xs[j]? = some y → y = secB (frOf r q inc' j)
    · have hxs : xs = (cutF r q inc').map secB ++ xs.drop (nOf r.length) := by
        refine List.ext_getElem? fun j => ?_
        rcases Nat.lt_or_ge j (nOf r.length) with h1 | h1
        · rw [List.getElem?_append_left (by simp [cutF_length, h1])]
          obtain ⟨y, hy⟩ : ∃ y, xs[j]? = some y := ⟨_, List.getElem?_eq_getElem (by omega)⟩
          rw [hy, hall j y h1 hy]; unfold cutF; simp [h1]
        · rw [List.getElem?_append_right (by simp [cutF_length, h1]), List.getElem?_drop]
          simp only [List.length_map, cutF_length]
          congr 1; omega
      have h1 := scan_one (nx := q) (l := l) hc hi (xs.drop (nOf r.length))
      obtain ⟨k, hk, h2, h3, h4, h5⟩ := scan_kept rs (q := q + (nOf r.length : Nat)) (inc := inc') (inc' := inc') (l := l ++ [(q, r)]) (xs := xs.drop (nOf r.length)) (Int.le_refl _) (fun p hp => hok p (by rw [beginsL]; exact List.mem_cons_of_mem _ hp)) (by rw [List.length_drop]; omega)
        (fun j x y hy hx => hin (nOf r.length + j) x y (by rw [← List.getElem?_drop]; exact hy) (by rw [framesL, List.getElem?_append_right (by rw [cutF_length]; omega), cutF_length, show nOf r.length + j - nOf r.length = j by omega]; exact hx))
        (fun j y hy hj => hno (nOf r.length + j) y (by rw [← List.getElem?_drop]; exact hy) (by omega))
      rw [← hxs] at h1
      refine ⟨k + 1, by simp; omega, by rw [h1, h2, List.take_succ_cons, beginsL]; simp, by rw [h1, h3, List.take_succ_cons, framesL, List.length_append, cutF_length]; omega, fun m hm hk2 => ?_, fun j x y hj hy hx => ?_⟩
      rotate_left
      · rcases Nat.lt_or_ge j (nOf r.length) with h6 | h6
        · rw [hF j h6] at hx
          rw [← Option.some.inj hx]; exact hall j y h6 hy
        · rw [List.take_succ_cons, framesL, List.length_append, cutF_length] at hj
          refine h5 (j - nOf r.length) x y (by omega) ?_ ?_
          · rw [List.getElem?_drop, show nOf r.length + (j - nOf r.length) = j by omega]; exact hy
          · rw [framesL, List.getElem?_append_right (by rw [cutF_length]; omega), cutF_length] at hx; exact hx
      cases m with
      | zero => omega
      | succ m =>
        have := h4 m (by simpa using hm) fun j x y hj hy hx => by
          refine hk2 (nOf r.length + j) x y ?_ (by rw [← List.getElem?_drop]; exact hy) ?_
          · rw [List.take_succ_cons, framesL, List.length_append, cutF_length]; omega
          · rw [framesL, List.getElem?_append_right (by rw [cutF_length]; omega), cutF_length, show nOf r.length + j - nOf r.length = j by omega]; exact hx
        omega
    · have hsome : ∀ (j : Nat) y p, j < nOf r.length → xs[j]? = some y → readF y = some p → y = secB (frOf r q inc' j) ∧ p = frOf r q inc' j := fun j y p hj hy hp => by
        rcases hin j _ y hy (hF j hj) with h | h
        · subst h
          rw [frOf_read hc hj] at hp
          exact ⟨rfl, (Option.some.inj hp).symm⟩
        · rw [h] at hp; cases hp
      have he : Ends q inc xs := fun x t hx f ld hf _ _ _ => by
        have hx0 : xs[0]? = some x := by rw [hx]; rfl
        obtain ⟨e1, e2⟩ := hsome 0 x _ (by omega) hx0 hf
        have hof : f.of = (nOf r.length : Nat) := by rw [show f = (frOf r q inc' 0).1 by rw [← e2]]; rfl
        rcases hn with h | h
        · exfalso
          refine hall fun j y hj hy => ?_
          obtain rfl : j = 0 := by omega
          rw [hx0] at hy; obtain rfl := Option.some.inj hy; exact e1
        · refine ⟨by rw [hof, h]; decide, fun y t' ht g le hg _ _ _ => ?_⟩
          have hx1 : xs[1]? = some y := by rw [hx, ht]; rfl
          obtain ⟨e3, -⟩ := hsome 1 y _ (by omega) hx1 hg
          refine hall fun j z hj hz => ?_
          rcases (show j = 0 ∨ j = 1 by omega) with rfl | rfl
          · rw [hx0] at hz; obtain rfl := Option.some.inj hz; exact e1
          · rw [hx1] at hz; obtain rfl := Option.some.inj hz; exact e3
      obtain ⟨h1, h2⟩ := scan_end (nx := q) (l := l) he
      refine ⟨0, Nat.zero_le _, by rw [h1]; simp [beginsL], by rw [h2]; simp [framesL], fun m hm hk2 => ?_, fun j x y hj => by simp [framesL] at hj⟩
      cases m with
      | zero => exact Nat.le_refl _
      | succ m =>
        exfalso
        refine hall fun j y hj hy => ?_
        exact hk2 j _ y (by rw [List.take_succ_cons, framesL, List.length_append, cutF_length]; omega) hy (hF j hj)

end Go.Proofs.Ytafejnbfgkkjkaa
