/-
  The second walk: rows of cells behind slices: read, made, appended to.
-/
import Derived.Test.YtcpobgjoicadjaaV4
import Derived.Laws.MakeOwn
import Derived.Laws.OwnMore
import Derived.Laws.CopyRow
import Derived.Laws.IdiomStrings
import Derived.Great.BuildSlice
namespace Go.Proofs.Ytcpobgjoicadjaa
open Go.RowKit Go.Sort

variable {P : Program} {ops : Array Oper} {Q : Exit → Act → World → Prop} {rest : List Oper} {n d : Nat} {a : Act} {L : List (Nat × Value)} {w w0 : World} {v : Value} {o : Oper} {H : List Ent}

/-- a slice type's element: its type, cells, bytes, zero cells -/
def sliceInfo (P : Program) (t : TypeId) : Option (TypeId × Nat × Nat × List Value) :=
  match P.underlying t with
  | some (.slice e) => match P.info? e with
    | some i => match i.zero with
      | some z => some (e, i.size, i.bytes, z.cells.toList)
      | none => none
    | none => none
  | _ => none
theorem sliceInfo_spec {t e sz by_ : Nat} {zc : List Value} (h : sliceInfo P t = some (e, sz, by_, zc)) : P.underlying t = some (.slice e) ∧ ∃ i z, P.info? e = some i ∧ i.zero = some z ∧ i.size = sz ∧ i.bytes = by_ ∧ z.cells = zc.toArray := by
  unfold sliceInfo at h
  cases hu : P.underlying t with
  | none => simp [hu] at h
  | some td =>
    rw [hu] at h
    cases td <;> simp only [reduceCtorEq] at h
    rename_i e'
    cases hi : P.info? e' with
    | none => simp [hi] at h
    | some i =>
      simp only [hi] at h
      cases hz : i.zero with
      | none => simp [hz] at h
      | some z =>
        simp only [hz, Option.some.injEq, Prod.mk.injEq] at h
        obtain ⟨rfl, rfl, rfl, rfl⟩ := h
        exact ⟨rfl, i, z, hi, hz, rfl, rfl, by simp⟩

/-- the slice v has n elements of sz cells each, and reads as the cells cs; they lie in blocks from lo to hi -/
def Rd (lo hi : Nat) (w : World) (sz : Nat) (v : Value) (n : Nat) (cs : List Value) : Prop :=
  cs.length = n * sz ∧ n ≤ maxLen ∧ ((v = .slice none 0 0 ∧ n = 0) ∨ ∃ (ad : Addr) (cap : Nat), v = .slice (some ad) n cap ∧ n ≤ cap ∧ cap ≤ maxLen ∧ CellsAt w ad.block ad.off cs ∧ (0 < n → ad.spot = none ∧ lo ≤ ad.block ∧ ad.block < hi))

theorem CellsAt.same {lo hi b o : Nat} {w w' : World} {cs : List Value} (h : CellsAt w b o cs) (hs : SameOn lo hi w w') (hb : cs ≠ [] → lo ≤ b ∧ b < hi) : CellsAt w' b o cs := fun j hj => by
  have hne : cs ≠ [] := fun e => by rw [e] at hj; simp at hj
  rw [← h j hj]
  exact World.cell?_of_block (hs b (hb hne).1 (hb hne).2)
theorem Rd.same {lo hi sz m : Nat} {w w' : World} {x : Value} {cs : List Value} (h : Rd lo hi w sz x m cs) (hs : SameOn lo hi w w') : Rd lo hi w' sz x m cs := by
  obtain ⟨h1, h2, h3⟩ := h
  refine ⟨h1, h2, ?_⟩
  rcases h3 with h3 | ⟨ad, cap, e, hc, hm, ha, hb⟩
  · exact .inl h3
  · refine .inr ⟨ad, cap, e, hc, hm, ha.same hs (fun hne => ?_), hb⟩
    have : 0 < m := Nat.pos_of_ne_zero fun h0 => hne (List.eq_nil_of_length_eq_zero (by rw [h1, h0, Nat.zero_mul]))
    exact (hb this).2
theorem Rd.wide {lo hi lo' hi' sz m : Nat} {w : World} {x : Value} {cs : List Value} (h : Rd lo hi w sz x m cs) (h1 : lo' ≤ lo) (h2 : hi ≤ hi') : Rd lo' hi' w sz x m cs := by
  obtain ⟨h1', h2', h3⟩ := h
  refine ⟨h1', h2', ?_⟩
  rcases h3 with h3 | ⟨ad, cap, e, hc, hm, ha, hb⟩
  · exact .inl h3
  · exact .inr ⟨ad, cap, e, hc, hm, ha, fun hne => by have := hb hne; exact ⟨this.1, by omega, by omega⟩⟩
/-- what an argument reads as, it reads as later -/
theorem Mem.arg {sz m : Nat} {x : Value} {cs : List Value} (M : Mem w0 w H) (h : Rd 0 w0.heap.size w0 sz x m cs) : Rd 0 w0.heap.size w sz x m cs := h.same fun k _ h2 => M.below.block k h2
theorem Mem.argW {sz m : Nat} {x : Value} {cs : List Value} (M : Mem w0 w H) (h : Rd 0 w0.heap.size w0 sz x m cs) : Rd 0 w.heap.size w sz x m cs := (M.arg h).wide (Nat.le_refl _) M.below.size
theorem Rd.later {sz m : Nat} {x : Value} {cs : List Value} {w w' : World} (h : Rd 0 w.heap.size w sz x m cs) (hb : Below w.heap.size w w') : Rd 0 w'.heap.size w' sz x m cs := (h.same (.of_below hb (Nat.le_refl _))).wide (Nat.le_refl _) hb.size
theorem Rd.nil (lo hi : Nat) (w : World) (sz : Nat) : Rd lo hi w sz (.slice none 0 0) 0 [] := ⟨by simp, Nat.zero_le _, .inl ⟨rfl, rfl⟩⟩
/-- the value is a slice of that length -/
theorem Rd.form {lo hi sz m : Nat} {x : Value} {cs : List Value} (h : Rd lo hi w sz x m cs) : ∃ ad cap, x = .slice ad m cap ∧ m ≤ cap ∧ cap ≤ maxLen := by
  rcases h.2.2 with ⟨rfl, rfl⟩ | ⟨ad, cap, e, hc, hm, _⟩
  · exact ⟨_, _, rfl, Nat.le_refl _, Nat.zero_le _⟩
  · exact ⟨_, _, e, hc, hm⟩
theorem Rd.place {lo hi sz m : Nat} {x : Value} {cs : List Value} (h : Rd lo hi w sz x m cs) (h0 : 0 < m) : ∃ b o cap, x = .slice (some ⟨b, o, none⟩) m cap ∧ m ≤ cap ∧ cap ≤ maxLen ∧ CellsAt w b o cs := by
  rcases h.2.2 with ⟨rfl, rfl⟩ | ⟨⟨b, o, sp⟩, cap, e, hc, hm, ha, hb⟩
  · omega
  · have hs : sp = none := (hb h0).1
    subst hs
    exact ⟨b, o, cap, e, hc, hm, ha⟩

/-- cells of one element -/
theorem CellsAt.elem {b o i sz k : Nat} {cs : List Value} {u : Value} (h : CellsAt w b o cs) (hu : cs[i * sz + k]? = some u) : w.cell? ⟨b, o + i * sz + k, none⟩ = some u := by
  have hlt := (List.getElem?_eq_some_iff.1 hu).1
  have := h (i * sz + k) hlt
  rw [show o + (i * sz + k) = o + i * sz + k by omega] at this
  rw [this, hu]
theorem CellsAt.row {b o i sz : Nat} {cs es : List Value} (h : CellsAt w b o cs) (hes : (cs.drop (i * sz)).take sz = es) (hl : es.length = sz) : CellsAt w b (o + i * sz) es := fun j hj => by
  have hj' : j < sz := by omega
  have : es[j]? = cs[i * sz + j]? := by rw [← hes, List.getElem?_take_of_lt hj', List.getElem?_drop]
  have hlt : i * sz + j < cs.length := by
    rcases Nat.lt_or_ge (i * sz + j) cs.length with h | h
    · exact h
    · rw [List.getElem?_eq_none h] at this
      rw [List.getElem?_eq_getElem hj] at this
      cases this
  rw [this, show o + i * sz + j = o + (i * sz + j) by omega]
  exact h _ hlt
theorem CellsAt.sub {b o i k : Nat} {cs : List Value} (h : CellsAt w b o cs) : CellsAt w b (o + i) ((cs.drop i).take k) := fun j hj => by
  simp only [List.length_take, List.length_drop] at hj
  rw [List.getElem?_take_of_lt (by omega), List.getElem?_drop, show o + i + j = o + (i + j) by omega]
  exact h _ (by omega)

/-- a part of what a slice reads as -/
theorem Rd.cut {lo hi sz m i j mx cap : Nat} {ad : Option Addr} {cs : List Value} (h : Rd lo hi w sz (.slice ad m cap) m cs) (h1 : i ≤ j) (h2 : j ≤ m) (h3 : j ≤ mx) (h4 : mx ≤ cap) : Rd lo hi w sz (.slice (subA ad i mx sz) (j - i) (mx - i)) (j - i) ((cs.drop (i * sz)).take ((j - i) * sz)) := by
  obtain ⟨hl, hm, hh⟩ := h
  have hlen : ((cs.drop (i * sz)).take ((j - i) * sz)).length = (j - i) * sz := by
    simp only [List.length_take, List.length_drop, hl]
    have e : (j - i) * sz + i * sz = j * sz := by rw [← Nat.add_mul]; congr 1; omega
    have : j * sz ≤ m * sz := Nat.mul_le_mul_right _ h2
    omega
  refine ⟨hlen, by omega, ?_⟩
  rcases hh with ⟨e, rfl⟩ | ⟨ad', cap', e, hc, hcm, ha, hb⟩
  · injection e with e1 e2 e3
    subst e1 e3
    left
    have : j = 0 := by omega
    have : i = 0 := by omega
    have : mx = 0 := by omega
    subst_vars
    exact ⟨by simp [subA], rfl⟩
  · injection e with e1 e2 e3
    subst e1 e3
    right
    by_cases hmi : mx = i
    · have hji : j - i = 0 := by omega
      refine ⟨ad', mx - i, by rw [subA, if_pos hmi], by omega, by omega, ?_, ?_⟩
      · rw [hji]; simp; intro j hj; simp at hj
      · intro h0; omega
    · have hadd : (ad'.add (i * sz)).block = ad'.block ∧ (ad'.add (i * sz)).off = ad'.off + i * sz := by
        unfold Addr.add; split
        · rename_i hz; rw [hz]; exact ⟨rfl, rfl⟩
        · exact ⟨rfl, rfl⟩
      refine ⟨ad'.add (i * sz), mx - i, by rw [subA, if_neg hmi]; rfl, by omega, by omega, ?_, fun h0 => ?_⟩
      · rw [hadd.1, hadd.2]; exact ha.sub
      · obtain ⟨h5, h6, h7⟩ := hb (by omega)
        refine ⟨?_, by rw [hadd.1]; exact h6, by rw [hadd.1]; exact h7⟩
        unfold Addr.add; split
        · exact h5
        · rfl

/-! ### rows of one's own -/
def rowE (lo hi : Nat) (e : TypeId) (sz : Nat) (v : Value) (n : Nat) (xs : List Value) : Ent :=
  .own lo hi (fun w => w.ownsRow lo e sz v n xs ∧ ∀ k, v.ownBlock = some k → lo ≤ k ∧ k < hi)

theorem ownsRow_same {lo hi : Nat} {e sz m : Nat} {w w' : World} {x : Value} {xs : List Value} (h : w.ownsRow lo e sz x m xs) (hk : ∀ k, x.ownBlock = some k → lo ≤ k ∧ k < hi) (hs : SameOn lo hi w w') : w'.ownsRow lo e sz x m xs := by
  refine ⟨h.1, ?_⟩
  rcases h.2 with hn | ⟨g, cap, cur, rfl, hb, hgg, rest⟩
  · exact .inl hn
  · refine .inr ⟨g, cap, cur, rfl, hb, ?_, rest⟩
    have := hk g rfl
    rw [hs g this.1 this.2]; exact hgg
theorem rowE_ok {lo hi : Nat} {e sz m : Nat} {w : World} {x : Value} {xs : List Value} (h : w.ownsRow lo e sz x m xs) (hk : ∀ k, x.ownBlock = some k → lo ≤ k ∧ k < hi) : (rowE lo hi e sz x m xs).ok w :=
  fun _ hs => ⟨ownsRow_same h hk hs, hk⟩

theorem Mem.rowNil (M : Mem w0 w H) (e sz : Nat) : Mem w0 w (rowE w.heap.size w.heap.size e sz (.slice none 0 0) 0 [] :: H) :=
  M.push (ext_refl w) _ (rowE_ok (World.ownsRow_nil w _ e sz) (fun k h => by simp [Value.ownBlock] at h)) (Nat.le_refl _) (Nat.le_refl _)

theorem perm_front : ∀ (H : List Ent) (p : Nat) (h : p < H.length), (H[p] :: H.eraseIdx p).Perm H
  | [], p, h => by simp at h
  | x :: H, 0, _ => by simp
  | x :: H, p + 1, h => by
    simp only [List.getElem_cons_succ, List.eraseIdx_cons_succ]
    exact (List.Perm.swap x _ _).trans ((perm_front H p (by simpa using h)).cons x)
theorem Mem.front (M : Mem w0 w H) (p : Nat) {e : Ent} (h : H[p]? = some e) : Mem w0 w (e :: H.eraseIdx p) := by
  have hmem := List.mem_of_getElem? h
  obtain ⟨hp, hpe⟩ := List.getElem?_eq_some_iff.1 h
  have hperm : (e :: H.eraseIdx p).Perm H := by rw [← hpe]; exact perm_front H p hp
  refine ⟨M.below, fun f hf => M.ok f (hperm.subset hf), fun f hf => M.fits f (hperm.subset hf), ?_⟩
  refine List.Pairwise.perm M.apart hperm.symm ?_
  intro x y hxy; exact hxy.symm

/-- a row of one's own can be read -/
theorem Rd.of_row {lo hi e sz m : Nat} {x : Value} {xs : List Value} (h : w.ownsRow lo e sz x m xs) (hk : ∀ k, x.ownBlock = some k → lo ≤ k ∧ k < hi) (hm : m ≤ maxLen) : Rd lo hi w sz x m xs := by
  refine ⟨h.1, hm, ?_⟩
  rcases h.2 with ⟨rfl, rfl⟩ | ⟨g, cap, cur, rfl, hb, hgg, hc, hcm, hs, ht⟩
  · exact .inl ⟨rfl, rfl⟩
  · refine .inr ⟨⟨g, 0, none⟩, cap, rfl, hc, hcm, fun j hj => ?_, fun _ => ⟨rfl, hk g rfl⟩⟩
    rw [← ht]
    have hj' : j < m * sz := by rw [← h.1]; exact hj
    rw [List.getElem?_take_of_lt hj']
    simp [World.cell?, hgg]
theorem Mem.readRow {lo hi e sz m : Nat} {x : Value} {xs : List Value} (M : Mem w0 w H) (p : Nat) (h : H[p]? = some (rowE lo hi e sz x m xs)) (hm : m ≤ maxLen) : Rd lo hi w sz x m xs :=
  have := M.own p h
  .of_row this.1 this.2 hm

theorem allOne_spec : ∀ {us : List Value}, allOne us = true → ∀ u ∈ us, u.oneCell' = true
  | [], _, u, h => by cases h
  | x :: us, h, u, hu => by
    simp only [allOne, Bool.and_eq_true] at h
    rcases List.mem_cons.1 hu with rfl | hu
    · cases u <;> simp_all [oneB, Value.oneCell']
    · exact allOne_spec h.2 u hu


theorem CellsAt.add {b o : Nat} {cs : List Value} (h : CellsAt w b o cs) : ∀ j u, cs[j]? = some u → w.cell? ((⟨b, o, none⟩ : Addr).add j) = some u := fun j u hu => by
  rw [addr_add, h j (List.getElem?_eq_some_iff.1 hu).1, hu]
theorem CellsAt.addA {ad : Addr} {cs : List Value} (h : CellsAt w ad.block ad.off cs) (hs : cs ≠ [] → ad.spot = none) : ∀ j u, cs[j]? = some u → w.cell? (ad.add j) = some u := fun j u hu => by
  have hne : cs ≠ [] := fun e => by rw [e] at hu; simp at hu
  obtain ⟨b, o, sp⟩ := ad
  have : sp = none := hs hne
  subst this
  exact h.add j u hu

/-- 'append(v, x...)' onto a row of one's own -/
theorem Mem.append {t e sz by_ lo hi lo' hi' m ty p : Nat} {zc xs news : List Value} {x : Value} (M : Mem w0 w H) (hI : sliceInfo P t = some (e, sz, by_, zc)) (hzs : zc.length = sz) (hsz : 0 < sz) (hp : H[p]? = some (rowE lo hi e sz v n xs)) (hx : Rd lo' hi' w sz x m news) (h1 : allOne news = true)
    (hb : (n + m) * by_ ≤ 140737488355328) (h63 : n + m ≤ maxLen) :
    ∃ v' w' l' h', (Builtin.append_ #[t, t] ty #[v, x]).run P w = .ok v' w' ∧ Mem w0 w' (rowE l' h' e sz v' (n + m) (xs ++ news) :: H.eraseIdx p) := by
  obtain ⟨hu, i, z, hi', hz, rfl, rfl, hzc⟩ := sliceInfo_spec hI
  obtain ⟨hown, hkk⟩ := M.own p hp
  have h1' := allOne_spec h1
  have hzs' : z.cells.size = i.size := by rw [hzc]; simpa using hzs
  have hsmall : n + m ≤ 9223372036854775807 := by simp only [maxLen] at h63; omega
  have fits := M.fits _ (List.mem_of_getElem? hp)
  simp only [rowE, Ent.lo, Ent.hi] at fits
  have hlx : news.length = m * i.size := hx.1
  have hlen : (xs ++ news).length = (n + m) * i.size := by rw [List.length_append, hown.1, hlx, Nat.add_mul]
  have Me : Mem w0 w (H.eraseIdx p) := M.drop p
  -- a new array
  have grown : ∀ (old : Nat), old < n + m → Mem w0 (w.drew.alloc (.cells (xs.toArray ++ news.toArray ++ Builtin.zeroCells z.cells (grownCap w (n + m) old e - (n + m))) e))
      (rowE w.heap.size (w.heap.size + 1) e i.size (.slice (some ⟨w.heap.size, 0, none⟩) (n + m) (grownCap w (n + m) old e)) (n + m) (xs ++ news) :: H.eraseIdx p) := by
    intro old ho
    have hge := grownCap_ge w (n + m) old e
    have hcm : grownCap w (n + m) old e ≤ maxLen := grownCap_le_maxLen w (n + m) old e h63
    refine Me.push (ext_alloc (ext_drew (ext_refl w)) _) _ (rowE_ok ⟨hlen, .inr ⟨w.heap.size, _, _, rfl, Nat.le_refl _, heap_alloc_new w.drew _, hge, hcm, ?_, ?_⟩⟩ (fun k hk => by simp [Value.ownBlock] at hk; omega)) (Nat.le_refl _) (by simp [rowE, Ent.hi])
    · simp only [Array.size_append, List.size_toArray, size_zeroCells, hzs', hown.1, hlx, ← Nat.add_mul]
      congr 1
      omega
    · simp only [Array.toList_append, List.append_assoc]
      rw [← List.append_assoc, ← hlen]
      exact List.take_left
  rcases hx.2.2 with ⟨rfl, rfl⟩ | ⟨ad', cap', rfl, hc', hcm', hat, hsp⟩
  · have hn : news = [] := List.eq_nil_of_length_eq_zero (by simpa using hlx)
    subst hn
    rw [List.append_nil, Nat.add_zero]
    exact ⟨v, w, lo, hi, run_append_owned_none w lo t ty e i i.size hu hi' v n xs hown, M.front p hp⟩
  · have hnews := hat.addA (fun hne => (hsp (Nat.pos_of_ne_zero fun h0 => hne (List.eq_nil_of_length_eq_zero (by rw [hlx, h0, Nat.zero_mul])))).1)
    rcases hown.2 with ⟨rfl, rfl⟩ | ⟨g, cap, cur, rfl, hbg, hg, hnc, hcm, hcs, htake⟩
    · have hx0 : xs = [] := List.eq_nil_of_length_eq_zero (by simpa using hown.1)
      subst hx0
      by_cases hm : m = 0
      · subst hm
        have hn : news = [] := List.eq_nil_of_length_eq_zero (by simpa using hlx)
        subst hn
        refine ⟨.slice none 0 0, w, lo, hi, ?_, M.front p hp⟩
        simp [Builtin.append_, run_underlying hu, sizeOf, typeInfo, hi', Builtin.lenOf, Builtin.firstCells, loadCells, loadCellsFrom]
      · have hr := run_append_nil (P := P) w t ty e i z hu hi' hz ad' m cap' news hlx hnews (by omega) (by omega) (by have hb := hb; simp only [Nat.zero_add] at hb; omega)
        have hgr := grown 0 (by omega)
        simp only [Nat.zero_add, List.nil_append, Array.empty_append] at hgr ⊢
        exact ⟨_, _, _, _, hr, hgr⟩
    · by_cases hroom : n + m ≤ cap
      · have hfit : n * i.size + news.length ≤ cur.size := by rw [hlx, hcs, ← Nat.add_mul]; exact Nat.mul_le_mul_right _ hroom
        have hr := run_append_room (P := P) w t ty e i hu hi' g n cap cur hg ad' m cap' news hlx hnews h1' hroom hfit
        have hk := hkk g rfl
        refine ⟨_, _, lo, hi, hr, ?_⟩
        have M' := M.change (w' := w.setRow g (cur.toList.take (n * i.size) ++ news ++ cur.toList.drop (n * i.size + news.length)).toArray) (e' := rowE lo hi e i.size (.slice (some ⟨g, 0, none⟩) (n + m) cap) (n + m) (xs ++ news)) p hp rfl rfl
          (rowE_ok ⟨hlen, .inr ⟨g, cap, _, rfl, hbg, setRow_heap w g cur _ e _ hg, hroom, hcm, by simp only [List.size_toArray, List.length_append, List.length_take, List.length_drop, Array.length_toList]; omega, by rw [htake, ← hlen]; exact List.take_left⟩⟩ hkk)
          (by simp [World.setRow]) rfl rfl rfl (fun k hk' => setRow_other w g k _ (fun e => hk' (by subst e; exact hk)))
        have hlt : p < H.length := (List.getElem?_eq_some_iff.1 hp).1
        have := M'.front p (List.getElem?_set_self hlt)
        rwa [List.eraseIdx_set_eq] at this
      · have holds : ∀ j u, xs[j]? = some u → w.cell? ((⟨g, 0, none⟩ : Addr).add j) = some u := hown.cells (g := g) rfl
        have hr := run_append_grow (P := P) w t ty e i z hu hi' hz ⟨g, 0, none⟩ n cap xs hown.1 holds ad' m cap' news hlx hnews (by omega) (by omega) (growslice_fits (by omega) hb)
        exact ⟨_, _, _, _, hr, grown cap (by omega)⟩

theorem st_append {t e sz by_ lo hi lo' hi' m : Nat} {zc xs news : List Value} {u x : Value} {s y : Operand} (S : Sees n a L) (M : Mem w0 w H) (pos : Nat) {k : Nat} {d : Nat} {ty : TypeId} {p : String} {ed : Array Edge} {g : Option (Nat × Bool)}
    (hg : gd ops L ⟨some d, .call { callee := .builtin .append, args := #[s, y], argTypes := #[t, t] }, ty, p, ed, g⟩ = some true) (hn : Nat.blt d n = true)
    (hI : sliceInfo P t = some (e, sz, by_, zc)) (hzs : zc.length = sz) (hsz : 0 < sz) (hs : val L s = some u) (hy : val L y = some x) (hp : H[pos]? = some (rowE lo hi e sz u k xs)) (hx : Rd lo' hi' w sz x m news) (h1 : allOne news = true)
    (hb : (k + m) * by_ ≤ 140737488355328) (h63 : k + m ≤ maxLen)
    (kk : ∀ a w v' l' h', Sees n a ((d, v') :: L) → Mem w0 w (rowE l' h' e sz v' (k + m) (xs ++ news) :: H.eraseIdx pos) → wpList P ops Q rest a w) :
    wpList P ops Q (⟨some d, .call { callee := .builtin .append, args := #[s, y], argTypes := #[t, t] }, ty, p, ed, g⟩ :: rest) a w := by
  obtain ⟨v', w', l', h', hr, M'⟩ := M.append (ty := ty) hI hzs hsz hp hx h1 hb h63
  refine st_w (v := v') (w' := w') S hg rfl hn ?_ fun a S' => kk a w' v' l' h' S' M'
  obtain ⟨cs, h⟩ := run_builtin (P := P) (w := w) (b := .append) (xs := [s, y]) (vs := [u, x]) S (by simp [vals, hs, hy]) (d := some d) (ts := #[t, t]) (t := ty) (p := p) (e := ed) (g := g)
  rw [h]
  simp only [builtin, Sem.run_bind]
  rw [show [u, x].toArray = #[u, x] from rfl, hr]
  rfl

/-! ### make -/
/-- the cells of what was made -/
def madeL (zc : List Value) (k : Nat) : List Value := (madeCells zc.toArray k).toList
theorem madeL_length (zc : List Value) (k : Nat) : (madeL zc k).length = k := by simp [madeL, size_madeCells]
theorem st_make {t e sz by_ : Nat} {zc : List Value} {x y : Operand} {kl kc : IntKind} {l c : Int} (S : Sees n a L) (M : Mem w0 w H) {d : Nat} {ty : TypeId} {p : String} {ed : Array Edge} {g : Option (Nat × Bool)}
    (hg : gd ops L ⟨some d, .makeSlice t x y, ty, p, ed, g⟩ = some true) (hn : Nat.blt d n = true) (hI : sliceInfo P t = some (e, sz, by_, zc)) (hx : val L x = some (.int kl l)) (hy : val L y = some (.int kc c))
    (h0 : 0 ≤ l) (hlc : l ≤ c) (hbytes : (by_ : Int) * c ≤ 281474976710656) (h63 : c ≤ 9223372036854775807)
    (k : ∀ a w' b, Sees n a ((d, .slice (some ⟨b, 0, none⟩) l.toNat c.toNat) :: L) → Mem w0 w' (.blk b (madeL zc (c.toNat * sz)).toArray e :: H) → Below w.heap.size w w' → wpList P ops Q rest a w') : wpList P ops Q (⟨some d, .makeSlice t x y, ty, p, ed, g⟩ :: rest) a w := by
  obtain ⟨hu, i, z, hi', hz, rfl, rfl, hzc⟩ := sliceInfo_spec hI
  refine st_w (v := .slice (some ⟨w.heap.size, 0, none⟩) l.toNat c.toNat) (w' := w.alloc (.cells (madeCells zc.toArray (c.toNat * i.size)) e)) S hg rfl hn ?_ fun a S' => k a _ w.heap.size S' (by rw [madeL, Array.toArray_toList]; exact M.alloc _ _) (ext_alloc (ext_refl _) _)
  unfold execOp
  simp only [S.eval hx, S.eval hy, Sem.run_bind, run_make w t e i z hu hi' hz kl kc l c h0 hlc hbytes h63, hzc, Result.andThen_ok]
  rfl

/-- a block of one's own becomes a row -/
theorem Mem.toRow {b e sz m cap : Nat} {cur : Array Value} {xs : List Value} (M : Mem w0 w H) (p : Nat) (h : H[p]? = some (.blk b cur e)) (hl : xs.length = m * sz) (hmc : m ≤ cap) (hcm : cap ≤ maxLen) (hs : cur.size = cap * sz) (ht : cur.toList.take (m * sz) = xs) :
    Mem w0 w (rowE b (b + 1) e sz (.slice (some ⟨b, 0, none⟩) m cap) m xs :: H.eraseIdx p) := by
  have hlt : p < H.length := (List.getElem?_eq_some_iff.1 h).1
  have M' := M.change (w' := w) (e' := rowE b (b + 1) e sz (.slice (some ⟨b, 0, none⟩) m cap) m xs) p h rfl rfl
    (rowE_ok ⟨hl, .inr ⟨b, cap, cur, rfl, Nat.le_refl _, M.blk p h, hmc, hcm, hs, ht⟩⟩ (fun k hk => by simp [Value.ownBlock] at hk; omega)) rfl rfl rfl rfl (fun _ _ => rfl)
  have := M'.front p (List.getElem?_set_self hlt)
  rwa [List.eraseIdx_set_eq] at this
theorem Rd.of_blk {b e sz m cap : Nat} {cur : Array Value} {xs : List Value} (B : Blk w b cur e) (hl : xs.length = m * sz) (hmc : m ≤ cap) (hcm : cap ≤ maxLen) (ht : cur.toList.take (m * sz) = xs) : Rd b (b + 1) w sz (.slice (some ⟨b, 0, none⟩) m cap) m xs := by
  refine ⟨hl, by omega, .inr ⟨⟨b, 0, none⟩, cap, rfl, hmc, hcm, fun j hj => ?_, fun _ => ⟨rfl, Nat.le_refl _, Nat.lt_succ_self _⟩⟩⟩
  rw [Nat.zero_add, B.cells, ← ht, List.getElem?_take_of_lt (by omega)]
  simp

end Go.Proofs.Ytcpobgjoicadjaa
