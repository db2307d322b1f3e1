/-
  What SessionOnce rests on, part 7.
-/
import Derived.Test.YtniijiipkfhjgaaP6
namespace Go.Proofs.Ytniijiipkfhjgaa
open Go.RowKit Go.Sort
/-- the name of one that is over -/
def End_.nm (x : End_) (inc : Int) : Nm := ⟨x.stamp, inc, x.try_⟩
/-- a session from its beginning; u: how often a new stamp was handed in -/
structure Ses.Ok (s : Ses) (u : Int → Int) : Prop where
  well : s.Well
  one : ∀ x ∈ s.over, ∀ y ∈ s.over, x.stamp = y.stamp → x.c = y.c
  own : ∀ o ∈ s.l, ∀ x ∈ s.over, o.nm.stamp = x.stamp → o.c = x.c ∧ x.try_ < o.nm.try_
  usedL : ∀ o ∈ s.l, 1 ≤ u o.nm.stamp
  usedO : ∀ x ∈ s.over, 1 ≤ u x.stamp
theorem Ses.Ok.mono {s : Ses} {u u' : Int → Int} (h : s.Ok u) (hu : ∀ z, u z ≤ u' z) : s.Ok u' :=
  ⟨h.well, h.one, h.own, fun o ho => Int.le_trans (h.usedL o ho) (hu _), fun x hx => Int.le_trans (h.usedO x hx) (hu _)⟩
theorem Ses.Ok.setO {s : Ses} {u : Int → Int} (h : s.Ok u) {i : Nat} {o o' : Ope} (ho : s.l[i]? = some o) (e : o'.key = o.key) (hm : o'.may s.inc = true) (hs : ShOk o'.sh) : Ses.Ok { s with l := s.l.set i o' } u := by
  have hmem := List.mem_of_getElem? ho
  have e2 : o'.nm = o.nm := congrArg Key.nm e
  have e3 : o'.c = o.c := congrArg Key.c e
  refine ⟨h.well.setO ho e hm hs, h.one, fun q hq x hx => ?_, fun q hq => ?_, h.usedO⟩
  · rcases mem_set hq with h1 | rfl
    · exact h.own q h1 x hx
    · rw [e2, e3]; exact h.own o hmem x hx
  · rcases mem_set hq with h1 | rfl
    · exact h.usedL q h1
    · rw [e2]; exact h.usedL o hmem
abbrev Ses.end_ (s : Ses) (i : Nat) (o : Ope) (er : Int) : Ses := { s with l := s.l.eraseIdx i, over := s.over ++ [⟨o.h, o.c, o.nm.stamp, o.nm.try_, er⟩] }
theorem Ses.Ok.end_ {s : Ses} {u : Int → Int} (h : s.Ok u) {i : Nat} {o : Ope} (ho : s.l[i]? = some o) (er : Int) : (s.end_ i o er).Ok u := by
  have hmem := List.mem_of_getElem? ho
  have hap := h.well.apart
  obtain ⟨a1, a2, a3, -⟩ := may_named (h.well.may o hmem)
  have hne : ∀ q ∈ s.l.eraseIdx i, q ∈ s.l ∧ q.h ≠ o.h ∧ q.nm.stamp ≠ o.nm.stamp := fun q hq => mem_erase_ne hap ho hq
  have hov : ∀ x ∈ s.over ++ [(⟨o.h, o.c, o.nm.stamp, o.nm.try_, er⟩ : End_)], x ∈ s.over ∨ x = ⟨o.h, o.c, o.nm.stamp, o.nm.try_, er⟩ := fun x hx => by simpa using hx
  refine ⟨⟨h.well.inc, h.well.last, ?_, fun q hq => h.well.pos q (hne q hq).1, fun q hq => h.well.may q (hne q hq).1, fun q hq => h.well.shok q (hne q hq).1, ?_, fun x hx => ?_⟩, fun x hx y hy e => ?_, fun q hq x hx e => ?_, fun q hq => h.usedL q (hne q hq).1, fun x hx => ?_⟩
  · show (s.l.eraseIdx i).length ≤ 8
    have := h.well.len
    rw [List.length_eraseIdx]; split <;> omega
  · show (keys (s.l.eraseIdx i)).Pairwise Apart
    rw [keys_erase]
    exact hap.sublist (List.eraseIdx_sublist _ _)
  · rcases hov x hx with h1 | rfl
    · obtain ⟨h2, h3, h4⟩ := h.well.ends x h1
      exact ⟨h2, fun q hq => h3 q (hne q hq).1, h4⟩
    · refine ⟨h.well.pos o hmem, fun q hq => (hne q hq).2.1, a3, ?_⟩
      show (⟨o.nm.stamp, s.inc, o.nm.try_⟩ : Nm).named = true
      rw [← a2]; exact a1
  · rcases hov x hx with h1 | rfl <;> rcases hov y hy with h2 | rfl
    · exact h.one x h1 y h2 e
    · exact (h.own o hmem x h1 e.symm).1.symm
    · exact (h.own o hmem y h2 e).1
    · rfl
  · rcases hov x hx with h1 | rfl
    · exact h.own q (hne q hq).1 x h1 e
    · exact absurd e (hne q hq).2.2
  · rcases hov x hx with h1 | rfl
    · exact h.usedO x h1
    · exact h.usedL o hmem
/-- the tries of those that are over, of a stamp and a client -/
theorem triesP_le {st c : Int} {l : List End_} {x : End_} (hx : x ∈ l) (h1 : x.stamp = st) (h2 : x.c = c) : x.try_ ≤ triesP st c l := by
  have key : ∀ (l : List End_) (m : Int), m ≤ l.foldl (fun m x => if x.stamp = st ∧ x.c = c then max m x.try_ else m) m := by
    intro l
    induction l with
    | nil => intro m; exact Int.le_refl _
    | cons y l ih =>
      intro m
      refine Int.le_trans ?_ (ih _)
      show m ≤ if _ then _ else _
      split
      · exact Int.le_max_left _ _
      · exact Int.le_refl _
  obtain ⟨a, b, rfl⟩ := List.append_of_mem hx
  unfold triesP
  rw [List.foldl_append, List.foldl_cons]
  refine Int.le_trans ?_ (key b _)
  rw [if_pos ⟨h1, h2⟩]
  exact Int.le_max_right _ _
theorem triesP_all {st c : Int} : ∀ (l : List End_), (∀ x ∈ l, ¬ (x.stamp = st ∧ x.c = c)) → triesP st c l = 0
  | [], _ => rfl
  | x :: l, h => by
    unfold triesP
    rw [List.foldl_cons, if_neg (h x (by simp))]
    exact triesP_all l fun y hy => h y (List.mem_cons_of_mem _ hy)
theorem triesP_some {st c : Int} : ∀ (l : List End_), triesP st c l ≠ 0 → ∃ x ∈ l, x.stamp = st ∧ x.c = c := fun l h => by
  rcases Classical.em (∃ x ∈ l, x.stamp = st ∧ x.c = c) with h1 | h1
  · exact h1
  · exact absurd (triesP_all l fun x hx e => h1 ⟨x, hx, e⟩) h
theorem triesP_lt {st c b : Int} (hb : 0 < b) : ∀ (l : List End_), (∀ x ∈ l, x.stamp = st → x.c = c → x.try_ < b) → triesP st c l < b := by
  have key : ∀ (l : List End_) (m : Int), m < b → (∀ x ∈ l, x.stamp = st → x.c = c → x.try_ < b) → l.foldl (fun m x => if x.stamp = st ∧ x.c = c then max m x.try_ else m) m < b := by
    intro l
    induction l with
    | nil => intro m h _; exact h
    | cons y l ih =>
      intro m h hl
      refine ih _ ?_ fun x hx => hl x (List.mem_cons_of_mem _ hx)
      show (if _ then _ else _) < b
      split
      · rename_i h2; exact Int.max_lt.2 ⟨h, hl y (by simp) h2.1 h2.2⟩
      · exact h
  exact fun l h => key l 0 hb h
/-- what a beginning's name is -/
theorem nameQ_ok {s : Ses} {st tr : Int} (h : (nameQ s st tr).2 = 0) : (∀ o ∈ s.l, o.nm.stamp ≠ st) ∧ tr < 1048576 ∧ s.last < 1099511627776 ∧ (nameQ s st tr).1 = ⟨st, s.inc, tr + 1⟩ := by
  unfold nameQ at h ⊢
  split at h
  · exact absurd h (by decide)
  · split at h
    · exact absurd h (by decide)
    · rename_i h1 h2
      rw [if_neg h1, if_neg h2]
      refine ⟨fun o ho e => h1 (.inl ?_), by omega, by omega, rfl⟩
      rw [List.any_eq_true]; exact ⟨o, ho, by simp [e]⟩
theorem nameP_ok {s : Ses} {c : Cal} {stamp : Int} (h : (nameP s c stamp).2 = 0) : (1 ≤ c.c ∧ c.c ≤ 1048576) ∧ s.l.length < 8 ∧ s.last < 1099511627776 ∧
    ∃ st tr, (nameP s c stamp).1 = ⟨st, s.inc, tr + 1⟩ ∧ (∀ o ∈ s.l, o.nm.stamp ≠ st) ∧ tr < 1048576 ∧ ((c.stamp = 0 ∧ st = stamp ∧ tr = 0 ∧ stamp ≠ 0) ∨ (c.stamp ≠ 0 ∧ st = c.stamp ∧ tr = triesP c.stamp c.c s.over ∧ tr ≠ 0)) := by
  unfold nameP at h ⊢
  split at h
  · exact absurd h (by decide)
  · split at h
    · exact absurd h (by decide)
    · rename_i h1 h2
      rw [if_neg h1, if_neg h2]
      by_cases h3 : c.stamp = 0
      · rw [if_pos h3] at h ⊢
        by_cases h4 : stamp = 0
        · rw [if_pos h4] at h; exact absurd h (by decide)
        · rw [if_neg h4] at h ⊢
          obtain ⟨q1, q2, q3, q4⟩ := nameQ_ok h
          exact ⟨by omega, by omega, q3, stamp, 0, q4, q1, by omega, .inl ⟨h3, rfl, rfl, h4⟩⟩
      · rw [if_neg h3] at h ⊢
        by_cases h4 : triesP c.stamp c.c s.over = 0
        · rw [if_pos h4] at h; exact absurd h (by decide)
        · rw [if_neg h4] at h ⊢
          obtain ⟨q1, q2, q3, q4⟩ := nameQ_ok h
          exact ⟨by omega, by omega, q3, c.stamp, _, q4, q1, q2, .inr ⟨h3, rfl, rfl, h4⟩⟩
/-- one more is open -/
abbrev Ses.more (s : Ses) (c : Int) (nm : Nm) : Ses := { s with l := s.l ++ [newOpe (s.last + 1) c nm], last := s.last + 1 }
theorem new_may {h c inc : Int} {nm : Nm} (h1 : nm.named = true) (h2 : nm.inc = inc) (h3 : 1 ≤ c ∧ c ≤ 1048576) : (newOpe h c nm).may inc = true := by
  refine may_intro h1 h2 h3 ?_ (fun _ => rfl) (.inl ⟨rfl, rfl⟩)
  show (notV 0 30 == 0 && (nOk 0 0 0 && nOk 0 1 0 && nOk 0 2 0 && nOk 0 3 0 && nOk 0 4 0)) = true
  decide +kernel
theorem Ses.Ok.more {s : Ses} {u : Int → Int} (h : s.Ok u) {c st tr : Int} (hc : 1 ≤ c ∧ c ≤ 1048576) (hlen : s.l.length < 8) (hla : s.last < 1099511627776) (hno : ∀ o ∈ s.l, o.nm.stamp ≠ st) (htr : 0 ≤ tr ∧ tr < 1048576) (hst : 1 ≤ st ∧ st ≤ 1048576)
    (hov : ∀ x ∈ s.over, x.stamp = st → x.c = c ∧ x.try_ ≤ tr) (hu : 1 ≤ u st) : (s.more c ⟨st, s.inc, tr + 1⟩).Ok u := by
  have hw := h.well
  have hl := hw.last
  have hinc := hw.inc
  have hnm : (⟨st, s.inc, tr + 1⟩ : Nm).named = true := by simp [Nm.named, withinB]; omega
  have hmem : ∀ q ∈ s.l ++ [newOpe (s.last + 1) c ⟨st, s.inc, tr + 1⟩], q ∈ s.l ∨ q = newOpe (s.last + 1) c ⟨st, s.inc, tr + 1⟩ := fun q hq => by simpa using hq
  refine ⟨⟨hw.inc, by show 0 ≤ s.last + 1 ∧ s.last + 1 ≤ 1099511627776; omega, ?_, fun q hq => ?_, fun q hq => ?_, fun q hq => ?_, ?_, fun x hx => ?_⟩, h.one, fun q hq x hx e => ?_, fun q hq => ?_, h.usedO⟩
  · show (s.l ++ [_]).length ≤ 8
    rw [List.length_append]; simp; omega
  · rcases hmem q hq with h1 | rfl
    · have := hw.pos q h1; show 1 ≤ q.h ∧ q.h ≤ s.last + 1; omega
    · show 1 ≤ s.last + 1 ∧ s.last + 1 ≤ s.last + 1; omega
  · rcases hmem q hq with h1 | rfl
    · exact hw.may q h1
    · exact new_may hnm rfl hc
  · rcases hmem q hq with h1 | rfl
    · exact hw.shok q h1
    · exact ShOk.zero
  · show (keys (s.l ++ [_])).Pairwise Apart
    rw [keys_snoc, List.pairwise_append]
    refine ⟨hw.apart, by simp, fun a ha b hb => ?_⟩
    obtain ⟨q, hq, rfl⟩ := mem_keys.1 ha
    obtain rfl := List.mem_singleton.1 hb
    have := hw.pos q hq
    exact ⟨by show q.h < s.last + 1; omega, hno q hq⟩
  · obtain ⟨h1, h2, h3⟩ := hw.ends x hx
    refine ⟨by show 1 ≤ x.h ∧ x.h ≤ s.last + 1; omega, fun q hq => ?_, h3⟩
    rcases hmem q hq with h4 | rfl
    · exact h2 q h4
    · show s.last + 1 ≠ x.h; omega
  · rcases hmem q hq with h1 | rfl
    · exact h.own q h1 x hx e
    · obtain ⟨h2, h3⟩ := hov x hx e.symm
      exact ⟨h2.symm, by show x.try_ < tr + 1; omega⟩
  · rcases hmem q hq with h1 | rfl
    · exact h.usedL q h1
    · exact hu
end Go.Proofs.Ytniijiipkfhjgaa

namespace Go.Proofs.Ytniijiipkfhjgaa
open Go.RowKit Go.Sort
def ansG (g : Int → Int) (y : Ans) : Int → Int := if y.kind = 0 then g else fun z => if z = y.h then g y.h - 1 else g z
/-- the open calls, after these answers -/
def ansF (f : Int → Int) (l : List Ans) : Int → Int := l.foldl ansG f
theorem ansF_snoc (f : Int → Int) (l : List Ans) (y : Ans) : ansF f (l ++ [y]) = ansG (ansF f l) y := by unfold ansF; rw [List.foldl_append]; rfl
theorem ansG_le (g : Int → Int) (y : Ans) (z : Int) : ansG g y z ≤ g z := by
  unfold ansG; split
  · exact Int.le_refl _
  · show (if z = y.h then _ else _) ≤ _
    split
    · rename_i h; rw [h]; omega
    · exact Int.le_refl _
theorem ansF_le (f : Int → Int) : ∀ (l : List Ans) (z : Int), ansF f l z ≤ f z := by
  intro l
  induction l generalizing f with
  | nil => intro z; exact Int.le_refl _
  | cons y l ih => intro z; exact Int.le_trans (ih (ansG f y) z) (ansG_le f y z)
def AnsOk (f : Int → Int) (l : List Ans) : Prop := ∀ (k : Nat) (y : Ans), l[k]? = some y → y.kind ≠ 0 → 1 ≤ ansF f (l.take k) y.h
theorem AnsOk.nil (f : Int → Int) : AnsOk f [] := fun k y h => absurd h (by simp)
theorem snoc_get {α : Type} {l : List α} {x y : α} {k : Nat} (h : (l ++ [x])[k]? = some y) : (k < l.length ∧ l[k]? = some y ∧ (l ++ [x]).take k = l.take k) ∨ (k = l.length ∧ y = x ∧ (l ++ [x]).take k = l) := by
  rcases Nat.lt_trichotomy k l.length with h1 | h1 | h1
  · left
    rw [List.getElem?_append_left h1] at h
    exact ⟨h1, h, List.take_append_of_le_length (by omega)⟩
  · right
    subst h1
    rw [List.getElem?_append_right (by omega), Nat.sub_self] at h
    exact ⟨rfl, (Option.some.inj h).symm, by rw [List.take_left']; rfl⟩
  · rw [List.getElem?_eq_none (by simp; omega)] at h; exact absurd h (by simp)
theorem AnsOk.snoc {f : Int → Int} {l : List Ans} (h : AnsOk f l) {y : Ans} (hy : y.kind ≠ 0 → 1 ≤ ansF f l y.h) : AnsOk f (l ++ [y]) := fun k q hq hk => by
  rcases snoc_get hq with ⟨-, h2, h3⟩ | ⟨-, rfl, h3⟩
  · rw [h3]; exact h k q h2 hk
  · rw [h3]; exact hy hk
def seenB (B : List Nm) (l : List Seen_) : List Nm := B ++ (l.filter (fun y => y.kind == 0)).map Seen_.nm
def seenO (O : List Nm) (l : List Seen_) : List Nm := O ++ (l.filter (fun y => y.kind == 4)).map Seen_.nm
theorem seenB_snoc (B : List Nm) (l : List Seen_) (y : Seen_) : seenB B (l ++ [y]) = if y.kind = 0 then seenB B l ++ [y.nm] else seenB B l := by
  unfold seenB; rw [List.filter_append]
  by_cases h : y.kind = 0 <;> simp [h]
theorem seenO_snoc (O : List Nm) (l : List Seen_) (y : Seen_) : seenO O (l ++ [y]) = if y.kind = 4 then seenO O l ++ [y.nm] else seenO O l := by
  unfold seenO; rw [List.filter_append]
  by_cases h : y.kind = 4 <;> simp [h]
def SeenOk (B O : List Nm) (l : List Seen_) : Prop := ∀ (k : Nat) (y : Seen_), l[k]? = some y →
  (y.kind = 0 → y.nm ∉ seenB B (l.take k)) ∧ (y.kind ≠ 0 → y.nm ∈ seenB B (l.take k) ∧ y.nm ∉ seenO O (l.take k))
theorem SeenOk.snoc {B O : List Nm} {l : List Seen_} (h : SeenOk B O l) {y : Seen_} (h0 : y.kind = 0 → y.nm ∉ seenB B l) (h1 : y.kind ≠ 0 → y.nm ∈ seenB B l ∧ y.nm ∉ seenO O l) : SeenOk B O (l ++ [y]) := fun k q hq => by
  rcases snoc_get hq with ⟨-, h2, h3⟩ | ⟨-, rfl, h3⟩
  · rw [h3]; exact h k q h2
  · rw [h3]; exact ⟨h0, h1⟩
/-- the desk, amid an act: f the calls that were open, B the names that had begun, O those that had ended, ahead of it -/
structure DI (D : Dsk) (f : Int → Int) (B O : List Nm) (u : Int → Int) : Prop where
  ok : D.s.Ok u
  ans : AnsOk f D.t.ans
  nn : ∀ h, 0 ≤ ansF f D.t.ans h
  busy : ∀ o ∈ D.s.l, o.ph ≠ 0 → 1 ≤ ansF f D.t.ans o.h
  seen : SeenOk B O D.t.seen
  hB : ∀ n, n ∈ seenB B D.t.seen ↔ (∃ o ∈ D.s.l, o.nm = n) ∨ ∃ x ∈ D.s.over, x.nm D.s.inc = n
  hO : ∀ n, n ∈ seenO O D.t.seen ↔ ∃ x ∈ D.s.over, x.nm D.s.inc = n
  mail : ∀ m ∈ D.t.mail, (m.kind = 6 ∧ m.yes = false ∧ m.name ∈ seenB B D.t.seen) ∨ ∃ o ∈ D.s.l, o.nm = m.name
/-- an open one is not over -/
theorem Ses.Ok.alive {s : Ses} {u : Int → Int} (h : s.Ok u) {o : Ope} (ho : o ∈ s.l) : ¬ ∃ x ∈ s.over, x.nm s.inc = o.nm := by
  rintro ⟨x, hx, e⟩
  have e1 : x.stamp = o.nm.stamp := congrArg Nm.stamp e
  have e2 : x.try_ = o.nm.try_ := congrArg Nm.try_ e
  have := (h.own o ho x hx e1.symm).2
  omega
section
variable {D : Dsk} {f : Int → Int} {B O : List Nm} {u : Int → Int}
theorem DI.mono (h : DI D f B O u) {u' : Int → Int} (hu : ∀ z, u z ≤ u' z) : DI D f B O u' := ⟨h.ok.mono hu, h.ans, h.nn, h.busy, h.seen, h.hB, h.hO, h.mail⟩
theorem names_set {l : List Ope} {i : Nat} {o o' : Ope} (ho : l[i]? = some o) (e : o'.key = o.key) (n : Nm) : (∃ q ∈ l.set i o', q.nm = n) ↔ ∃ q ∈ l, q.nm = n := by
  have h1 : ∀ l : List Ope, (∃ q ∈ l, q.nm = n) ↔ ∃ k ∈ keys l, k.nm = n := fun l => by
    constructor
    · rintro ⟨q, hq, e⟩; exact ⟨q.key, mem_keys.2 ⟨q, hq, rfl⟩, e⟩
    · rintro ⟨k, hk, e⟩
      obtain ⟨q, hq, rfl⟩ := mem_keys.1 hk
      exact ⟨q, hq, e⟩
  rw [h1, h1, keys_set ho e]
theorem DI.setO (h : DI D f B O u) {i : Nat} {o o' : Ope} (ho : D.s.l[i]? = some o) (e : o'.key = o.key) (hm : o'.may D.s.inc = true) (hs : ShOk o'.sh) (hb : o'.ph ≠ 0 → 1 ≤ ansF f D.t.ans o.h) : DI (D.setO i o') f B O u := by
  refine ⟨h.ok.setO ho e hm hs, h.ans, h.nn, fun q hq hph => ?_, h.seen, fun n => ?_, h.hO, fun m hm => ?_⟩
  · rcases mem_set hq with h1 | rfl
    · exact h.busy q h1 hph
    · rw [show q.h = o.h from congrArg Key.h e]; exact hb hph
  · rw [names_set ho e]; exact h.hB n
  · rw [names_set ho e]; exact h.mail m hm
theorem DI.mailed (h : DI D f B O u) {m : Msg} (hm : ∃ o ∈ D.s.l, o.nm = m.name) : DI (D.mail m) f B O u := by
  refine ⟨h.ok, h.ans, h.nn, h.busy, h.seen, h.hB, h.hO, fun q hq => ?_⟩
  rcases List.mem_append.1 hq with h1 | h1
  · exact h.mail q h1
  · obtain rfl := List.mem_singleton.1 h1; exact .inr hm
theorem DI.maileds (h : DI D f B O u) {l : List Msg} (hm : ∀ m ∈ l, ∃ o ∈ D.s.l, o.nm = m.name) : DI (D.mails l) f B O u := by
  refine ⟨h.ok, h.ans, h.nn, h.busy, h.seen, h.hB, h.hO, fun q hq => ?_⟩
  rcases List.mem_append.1 hq with h1 | h1
  · exact h.mail q h1
  · exact .inr (hm q h1)
theorem DI.step (h : DI D f B O u) {y : Seen_} (h0 : y.kind ≠ 0) (h4 : y.kind ≠ 4) {o : Ope} (ho : o ∈ D.s.l) (hn : o.nm = y.nm) : DI (D.seen y) f B O u := by
  have e1 : seenB B (D.t.seen ++ [y]) = seenB B D.t.seen := by rw [seenB_snoc, if_neg h0]
  have e2 : seenO O (D.t.seen ++ [y]) = seenO O D.t.seen := by rw [seenO_snoc, if_neg h4]
  refine ⟨h.ok, h.ans, h.nn, h.busy, h.seen.snoc (fun e => absurd e h0) (fun _ => ⟨(h.hB _).2 (.inl ⟨o, ho, hn⟩), fun h5 => ?_⟩), fun n => ?_, fun n => ?_, fun m hm => ?_⟩
  · rw [← hn] at h5; exact h.ok.alive ho ((h.hO _).1 h5)
  · show n ∈ seenB B (D.t.seen ++ [y]) ↔ _; rw [e1]; exact h.hB n
  · show n ∈ seenO O (D.t.seen ++ [y]) ↔ _; rw [e2]; exact h.hO n
  · show (_ ∧ _ ∧ m.name ∈ seenB B (D.t.seen ++ [y])) ∨ _; rw [e1]; exact h.mail m hm
theorem DI.answered (h : DI D f B O u) {y : Ans} (h1 : y.kind ≠ 0 → 1 ≤ ansF f D.t.ans y.h) (hb : y.kind ≠ 0 → ∀ o ∈ D.s.l, o.ph ≠ 0 → o.h ≠ y.h) : DI (D.answer y) f B O u := by
  refine ⟨h.ok, h.ans.snoc h1, fun z => ?_, fun o ho hph => ?_, h.seen, h.hB, h.hO, h.mail⟩
  · show 0 ≤ ansF f (D.t.ans ++ [y]) z
    rw [ansF_snoc]; unfold ansG
    have hz := h.nn z
    split
    · exact hz
    · rename_i h2
      have := h1 h2
      show 0 ≤ if z = y.h then _ else _
      split
      · omega
      · exact hz
  · show 1 ≤ ansF f (D.t.ans ++ [y]) o.h
    rw [ansF_snoc]; unfold ansG
    split
    · exact h.busy o ho hph
    · rename_i h2
      show 1 ≤ if o.h = y.h then _ else _
      rw [if_neg (hb h2 o ho hph)]
      exact h.busy o ho hph
/-- one ends -/
theorem DI.ended (h : DI D f B O u) {i : Nat} {o : Ope} (ho : D.s.l[i]? = some o) (kd er an : Int) (told : Bool) (hk : kd ≠ 0) (hm : ∀ m ∈ D.t.mail, m.kind = 6 ∧ m.yes = false) (ht : told = true → 1 ≤ ansF f D.t.ans o.h) :
    DI (D.ended i o kd er an told) f B O u := by
  have hmem := List.mem_of_getElem? ho
  have hap := h.ok.well.apart
  have hal := h.ok.alive hmem
  have hinc := (may_named (h.ok.well.may o hmem)).2.1
  have hnm : (⟨o.h, o.c, o.nm.stamp, o.nm.try_, er⟩ : End_).nm D.s.inc = o.nm := by
    show (⟨o.nm.stamp, D.s.inc, o.nm.try_⟩ : Nm) = o.nm
    rw [← hinc]
  have hB' : seenB B (D.t.seen ++ [⟨4, o.nm, 0, zV8, er⟩]) = seenB B D.t.seen := by rw [seenB_snoc, if_neg (show (4 : Int) ≠ 0 by decide)]
  have hO' : seenO O (D.t.seen ++ [⟨4, o.nm, 0, zV8, er⟩]) = seenO O D.t.seen ++ [o.nm] := by rw [seenO_snoc, if_pos rfl]
  have hov : ∀ n, (∃ x ∈ D.s.over ++ [(⟨o.h, o.c, o.nm.stamp, o.nm.try_, er⟩ : End_)], x.nm D.s.inc = n) ↔ (∃ x ∈ D.s.over, x.nm D.s.inc = n) ∨ o.nm = n := fun n => by
    constructor
    · rintro ⟨x, hx, e⟩
      rcases List.mem_append.1 hx with h1 | h1
      · exact .inl ⟨x, h1, e⟩
      · obtain rfl := List.mem_singleton.1 h1
        rw [hnm] at e; exact .inr e
    · rintro (⟨x, hx, e⟩ | e)
      · exact ⟨x, List.mem_append_left _ hx, e⟩
      · exact ⟨_, List.mem_append_right _ (List.mem_singleton.2 rfl), by rw [hnm]; exact e⟩
  have hin : ∀ n, ((∃ q ∈ D.s.l, q.nm = n) ∨ ∃ x ∈ D.s.over, x.nm D.s.inc = n) ↔ ((∃ q ∈ D.s.l.eraseIdx i, q.nm = n) ∨ ((∃ x ∈ D.s.over, x.nm D.s.inc = n) ∨ o.nm = n)) := fun n => by
    constructor
    · rintro (⟨q, hq, e⟩ | h1)
      · by_cases hh : q.h = o.h
        · have : q = o := by
            obtain ⟨j, hj⟩ := List.getElem?_of_mem hq
            rcases Nat.lt_trichotomy j i with h2 | h2 | h2
            · have := (apart_get hap h2 hj ho).1; omega
            · subst h2; rw [ho] at hj; exact (Option.some.inj hj).symm
            · have := (apart_get hap h2 ho hj).1; omega
          subst this; exact .inr (.inr e)
        · exact .inl ⟨q, mem_of_ne ho hq hh, e⟩
      · exact .inr (.inl h1)
    · rintro (⟨q, hq, e⟩ | h1 | e)
      · exact .inl ⟨q, List.mem_of_mem_eraseIdx hq, e⟩
      · exact .inr h1
      · exact .inl ⟨o, hmem, e⟩
  have hA : ∀ a, a = ⟨o.c, o.h, an, zV8, o.nm.stamp, kd⟩ → ∀ z, ansF f (D.t.ans ++ [a]) z = if z = o.h then ansF f D.t.ans o.h - 1 else ansF f D.t.ans z := fun a ha z => by
    subst ha; rw [ansF_snoc]; unfold ansG; rw [if_neg hk]
  refine ⟨h.ok.end_ ho er, ?_, fun z => ?_, fun q hq hph => ?_, ?_, fun n => ?_, fun n => ?_, fun m hm' => ?_⟩
  · show AnsOk f (D.t.ans ++ (if told = true then [_] else []))
    by_cases h1 : told = true
    · rw [if_pos h1]; exact h.ans.snoc fun _ => ht h1
    · rw [if_neg h1, List.append_nil]; exact h.ans
  · show 0 ≤ ansF f (D.t.ans ++ (if told = true then [_] else [])) z
    have hz := h.nn z
    by_cases h1 : told = true
    · rw [if_pos h1, hA _ rfl]
      have := ht h1
      split <;> omega
    · rw [if_neg h1, List.append_nil]; exact hz
  · obtain ⟨h2, h3, -⟩ := mem_erase_ne hap ho hq
    show 1 ≤ ansF f (D.t.ans ++ (if told = true then [_] else [])) q.h
    by_cases h1 : told = true
    · rw [if_pos h1, hA _ rfl, if_neg h3]; exact h.busy q h2 hph
    · rw [if_neg h1, List.append_nil]; exact h.busy q h2 hph
  · exact h.seen.snoc (fun e => absurd (show (4 : Int) = 0 from e) (by decide)) fun _ => ⟨(h.hB _).2 (.inl ⟨o, hmem, rfl⟩), fun h5 => hal ((h.hO _).1 h5)⟩
  · show n ∈ seenB B (D.t.seen ++ [_]) ↔ (∃ q ∈ D.s.l.eraseIdx i, q.nm = n) ∨ ∃ x ∈ D.s.over ++ [_], x.nm D.s.inc = n
    rw [hB', hov, ← hin]; exact h.hB n
  · show n ∈ seenO O (D.t.seen ++ [_]) ↔ ∃ x ∈ D.s.over ++ [_], x.nm D.s.inc = n
    rw [hO', hov, List.mem_append, h.hO, List.mem_singleton]
    exact ⟨fun h => h.imp id fun e => e.symm, fun h => h.imp id fun e => e.symm⟩
  · obtain ⟨h1, h2⟩ := hm m hm'
    refine .inl ⟨h1, h2, ?_⟩
    show m.name ∈ seenB B (D.t.seen ++ [_])
    rw [hB']
    rcases h.mail m hm' with ⟨-, -, h3⟩ | h3
    · exact h3
    · exact (h.hB _).2 (.inl h3)
end
theorem refuseP_mem (o : Ope) (but : Int) : ∀ (k : Nat) (m : Msg), m ∈ refuseP o but k → m.kind = 6 ∧ m.yes = false ∧ m.name = o.nm
  | 0, m, h => absurd h (by simp [refuseP])
  | k + 1, m, h => by
    unfold refuseP at h
    rcases List.mem_append.1 h with h1 | h1
    · exact refuseP_mem o but k m h1
    · split at h1
      · obtain rfl := List.mem_singleton.1 h1; exact ⟨rfl, rfl, rfl⟩
      · exact absurd h1 (by simp)
end Go.Proofs.Ytniijiipkfhjgaa

namespace Go.Proofs.Ytniijiipkfhjgaa
open Go.RowKit Go.Sort
def bump (f : Int → Int) (h : Int) : Int → Int := fun z => if z = h then f h + 1 else f z
theorem shard_rng {of : Of8} {n : Int} (h : shardE of n = 0) : 0 ≤ n ∧ n < 32 := by
  unfold shardE at h
  split at h
  · assumption
  · omega
section
variable {D : Dsk} {f : Int → Int} {B O : List Nm} {u : Int → Int}
theorem DI.end0 (h : DI D f B O u) (n : Nm) : DI (D.end0 n) f B O u := ⟨h.ok, h.ans, h.nn, h.busy, h.seen, h.hB, h.hO, h.mail⟩
theorem DI.com0 (h : DI D f B O u) (n : Nm) : DI (D.com0 n) f B O u := ⟨h.ok, h.ans, h.nn, h.busy, h.seen, h.hB, h.hO, h.mail⟩
theorem DI.execd (h : DI D f B O u) {i : Nat} {o : Ope} (ho : D.s.l[i]? = some o) {x : Msg} (he : execOk D o x) (hx : (0 ≤ x.op ∧ x.op ≤ 2) ∧ (x.op = 1 ∨ x.val.zero = true)) (hb : 1 ≤ ansF f D.t.ans o.h) : DI (D.execd i o x) f B O u := by
  have hmem := List.mem_of_getElem? ho
  have hsb := shard_bd he.1
  have hr := shard_rng he.1
  have hk : DI (D.setO i (o.execd (shardV D.of x.block).toNat x)) f B O u := h.setO ho rfl (execd_may (h.ok.well.may o hmem) (h.ok.well.shok o hmem) (by omega) (by omega) he.2 x ⟨⟨hx.1.1, hx.1.2, hr.1, hr.2⟩, hx.2⟩ h.ok.well.inc) ((h.ok.well.shok o hmem).or (by omega) (by omega)) (fun _ => hb)
  exact hk.mailed ((names_set (i := i) (o' := o.execd (shardV D.of x.block).toNat x) ho rfl o.nm).2 ⟨o, hmem, rfl⟩)
theorem DI.touch (h : DI D f B O u) {i : Nat} {o : Ope} (ho : D.s.l[i]? = some o) {c : Cal} {bs : List UInt8} (hb : 1 ≤ ansF f D.t.ans o.h) : DI (D.touch i o c bs) f B O u ∨ ∃ er, D.touch i o c bs = D.refused c er := by
  unfold Dsk.touch
  split
  · exact .inr ⟨_, rfl⟩
  · split
    · exact .inr ⟨_, rfl⟩
    · split
      · rename_i he
        refine .inl (h.execd ho he ?_ hb)
        unfold touchX
        split
        · exact ⟨by show (0 : Int) ≤ 1 ∧ (1 : Int) ≤ 2; omega, .inl rfl⟩
        · exact ⟨by show (0 : Int) ≤ 0 ∧ (0 : Int) ≤ 2; omega, .inr (by show V8.zero zV8 = true; decide)⟩
      · exact .inr ⟨_, rfl⟩
theorem kind_ne (o : Ope) : o.kind ≠ 0 := by
  unfold Ope.kind; split
  · decide
  · split <;> decide
theorem DI.commit (h : DI D f B O u) {i : Nat} {o : Ope} (ho : D.s.l[i]? = some o) (h0 : o.ph = 0) (hm : D.t.mail = []) (hb : 1 ≤ ansF f D.t.ans o.h) : DI (D.commit i o) f B O u := by
  have hmem := List.mem_of_getElem? ho
  have hmay := h.ok.well.may o hmem
  have hsh := h.ok.well.shok o hmem
  obtain ⟨a1, a2, a3, a4⟩ := may_named hmay
  obtain ⟨b1, b2⟩ := may_at0 hmay h0
  have h1 : DI (D.seen ⟨3, o.nm, 0, zV8, 0⟩) f B O u := h.step (y := ⟨3, o.nm, 0, zV8, 0⟩) (by show (3 : Int) ≠ 0; decide) (by show (3 : Int) ≠ 4; decide) hmem rfl
  unfold Dsk.commit Dsk.commit0
  split
  · have h2 : DI (((D.seen ⟨3, o.nm, 0, zV8, 0⟩).end0 o.nm).seen ⟨5, o.nm, 0, zV8, 0⟩) f B O u := (h1.end0 o.nm).step (y := ⟨5, o.nm, 0, zV8, 0⟩) (by show (5 : Int) ≠ 0; decide) (by show (5 : Int) ≠ 4; decide) hmem rfl
    refine h2.ended ho 3 0 0 true (by decide) (fun m hm' => ?_) (fun _ => hb)
    rw [show (((D.seen ⟨3, o.nm, 0, zV8, 0⟩).end0 o.nm).seen ⟨5, o.nm, 0, zV8, 0⟩).t.mail = [] from hm] at hm'
    exact absurd hm' (by simp)
  · split
    · rename_i h2 h3
      obtain ⟨c1, c2, c3⟩ := lone_is hsh h2 h3
      have h4 : DI ((D.seen ⟨3, o.nm, 0, zV8, 0⟩).setO i { o with ph := 2, at_ := loneB o.sh }) f B O u := h1.setO ho rfl (may_intro a1 a2 a3 a4 (fun _ => b2) (.inr (.inr (.inl ⟨rfl, by show 1 ≤ (loneB o.sh : Int) ∧ (loneB o.sh : Int) ≤ 4; omega, by show o.sh = 1 * (2 : Int) ^ ((loneB o.sh : Int)).toNat; rw [Int.toNat_natCast]; exact c3⟩)))) hsh (fun _ => hb)
      exact h4.mailed ((names_set (i := i) (o' := { o with ph := 2, at_ := loneB o.sh }) ho rfl o.nm).2 ⟨o, hmem, rfl⟩)
    · rename_i h2 h3
      exact (h1.setO (o' := { o with ph := 3 }) ho rfl (may_intro a1 a2 a3 a4 (fun _ => b2) (.inr (.inr (.inr ⟨rfl, b1, h3⟩)))) hsh (fun _ => hb)).com0 o.nm
theorem DI.refuse (h : DI D f B O u) {i : Nat} {o : Ope} (ho : D.s.l[i]? = some o) (but : Int) : DI (D.mails (refuseP o but 4)) f B O u :=
  h.maileds fun m hm => ⟨o, List.mem_of_getElem? ho, (refuseP_mem o but 4 m hm).2.2.symm⟩
theorem refuse_all {o : Ope} {but : Int} (hm : ∀ m ∈ D.t.mail, m.kind = 6 ∧ m.yes = false) : ∀ m ∈ (D.mails (refuseP o but 4)).t.mail, m.kind = 6 ∧ m.yes = false := fun m hq => by
  rcases List.mem_append.1 hq with h1 | h1
  · exact hm m h1
  · exact ⟨(refuseP_mem o but 4 m h1).1, (refuseP_mem o but 4 m h1).2.1⟩
theorem no_mail (h : D.t.mail = []) : ∀ m ∈ D.t.mail, m.kind = 6 ∧ m.yes = false := fun m hq => by rw [h] at hq; exact absurd hq (by simp)
theorem DI.did (h : DI D f B O u) {i : Nat} {o : Ope} (ho : D.s.l[i]? = some o) (h1 : o.ph = 1) (hm : D.t.mail = []) (m : Msg) : DI (D.did i o m) f B O u := by
  have hmem := List.mem_of_getElem? ho
  have hmay := h.ok.well.may o hmem
  obtain ⟨a1, a2, a3, a4⟩ := may_named hmay
  have hb := h.busy o hmem (by omega)
  unfold Dsk.did
  split
  · have h2 : DI (D.setO i { o with ph := 0, at_ := 0, ex := zMg }) f B O u := h.setO ho rfl (may_intro a1 a2 a3 a4 (fun _ => rfl) (.inl ⟨rfl, rfl⟩)) (h.ok.well.shok o hmem) (fun e => absurd rfl e)
    have hset : ∀ q ∈ D.s.l.set i { o with ph := 0, at_ := 0, ex := zMg }, q.ph ≠ 0 → q.h ≠ o.h := fun q hq hph e => by
      have hap := h2.ok.well.apart
      have hil := (List.getElem?_eq_some_iff.1 ho).1
      have hi : (D.s.l.set i { o with ph := 0, at_ := 0, ex := zMg })[i]? = some { o with ph := 0, at_ := 0, ex := zMg } := by simp [hil]
      obtain ⟨j, hj⟩ := List.getElem?_of_mem hq
      rcases Nat.lt_trichotomy j i with h3 | h3 | h3
      · have := (apart_get hap h3 hj hi).1
        have : q.h < o.h := this
        omega
      · subst h3
        rw [hi] at hj
        have := Option.some.inj hj
        subst this
        exact hph rfl
      · have := (apart_get hap h3 hi hj).1
        have : o.h < q.h := this
        omega
    have h3 : DI ((D.setO i { o with ph := 0, at_ := 0, ex := zMg }).answer (Dsk.didA o m)) f B O u := h2.answered (y := Dsk.didA o m) (fun _ => hb) (fun _ => hset)
    refine h3.step (y := Dsk.didS o m) ?_ ?_ (o := { o with ph := 0, at_ := 0, ex := zMg }) (List.mem_of_getElem? (i := i) (by simp [(List.getElem?_eq_some_iff.1 ho).1])) rfl
    · show (if o.kind = 1 then (1 : Int) else 2) ≠ 0; split <;> decide
    · show (if o.kind = 1 then (1 : Int) else 2) ≠ 4; split <;> decide
  · split
    · rename_i h2
      obtain ⟨-, -, -, -, e5, e6⟩ := execMay_iff (may_at1 hmay h1).2.2
      exact h.execd ho h2.2 ⟨⟨e5.1, e5.2.1⟩, e6⟩ hb
    · exact (h.refuse ho m.frm).ended ho o.kind m.e m.e true (kind_ne o) (refuse_all (no_mail hm)) (fun _ => hb)
theorem DI.lost (h : DI D f B O u) {i : Nat} {o : Ope} (ho : D.s.l[i]? = some o) (hm : ∀ m ∈ D.t.mail, m.kind = 6 ∧ m.yes = false) (sh : Int) : DI (D.lost i o sh) f B O u ∧ ∀ m ∈ (D.lost i o sh).t.mail, m.kind = 6 ∧ m.yes = false := by
  have hmem := List.mem_of_getElem? ho
  have hb : (o.ph != 0) = true → 1 ≤ ansF f D.t.ans o.h := fun e => h.busy o hmem (by simpa using e)
  unfold Dsk.lost
  split
  · exact ⟨(h.refuse ho sh).ended ho o.kind 121 121 _ (kind_ne o) (refuse_all hm) hb, refuse_all hm⟩
  · exact ⟨h.ended ho o.kind 122 122 _ (kind_ne o) hm hb, hm⟩
end
/-- between two acts -/
abbrev SI (s : Ses) (f : Int → Int) (B O : List Nm) (u : Int → Int) : Prop := ∀ of, DI ⟨s, Tol.none, of⟩ f B O u
theorem SI.start {u : Int → Int} : SI ⟨[], 0, 1, []⟩ (fun _ => 0) [] [] u := fun of =>
  ⟨⟨⟨by show (1 : Int) ≤ 1 ∧ (1 : Int) ≤ 1048576; omega, by show (0 : Int) ≤ 0 ∧ (0 : Int) ≤ 1099511627776; omega, by show 0 ≤ 8; omega, fun o ho => absurd ho (by simp), fun o ho => absurd ho (by simp), fun o ho => absurd ho (by simp), List.Pairwise.nil, fun o ho => absurd ho (by simp)⟩, fun o ho => absurd ho (by simp), fun o ho => absurd ho (by simp), fun o ho => absurd ho (by simp), fun o ho => absurd ho (by simp)⟩,
    AnsOk.nil _, fun _ => Int.le_refl _, fun o ho => absurd ho (by simp), fun k y h => absurd h (by simp [Tol.none]), fun n => by simp [seenB, Tol.none], fun n => by simp [seenO, Tol.none], fun m hm => absurd hm (by simp [Tol.none])⟩
theorem DI.next {D : Dsk} {f : Int → Int} {B O : List Nm} {u : Int → Int} (h : DI D f B O u) : SI D.s (ansF f D.t.ans) (seenB B D.t.seen) (seenO O D.t.seen) u := fun of =>
  ⟨h.ok, AnsOk.nil _, h.nn, h.busy, fun k y h => absurd h (by simp [Tol.none]), fun n => by rw [show seenB (seenB B D.t.seen) Tol.none.seen = seenB B D.t.seen by simp [seenB, Tol.none]]; exact h.hB n, fun n => by rw [show seenO (seenO O D.t.seen) Tol.none.seen = seenO O D.t.seen by simp [seenO, Tol.none]]; exact h.hO n, fun m hm => absurd hm (by simp [Tol.none])⟩
theorem SI.end_ {s s' : Ses} {t' : Tol} {f : Int → Int} {B O : List Nm} {u : Int → Int} (h : SI s f B O u) {n : Nm} {er : Int} (hR : EndR s n er s' t') : DI ⟨s', t', zOf⟩ f B O u := by
  obtain ⟨i, o, D', ho, -, hph, rfl, rfl, hD⟩ := hR
  have hmem := List.mem_of_getElem? ho
  have hb := (h zOf).busy o hmem (by omega)
  rcases hD with ⟨-, rfl⟩ | ⟨-, rfl⟩ | ⟨-, rfl⟩
  · exact (h zOf).ended ho 3 0 0 true (by decide) (no_mail rfl) (fun _ => hb)
  · exact ((h zOf).refuse ho 0).ended ho 3 50 50 true (by decide) (refuse_all (no_mail rfl)) (fun _ => hb)
  · exact (h zOf).ended ho 3 121 121 true (by decide) (no_mail rfl) (fun _ => hb)
theorem SI.hear {s s' : Ses} {t' : Tol} {f : Int → Int} {B O : List Nm} {u : Int → Int} (h : SI s f B O u) {of : Of8} {m : Msg} (hR : HearR s of m s' t') : DI ⟨s', t', of⟩ f B O u := by
  rcases hR with ⟨rfl, rfl, -⟩ | ⟨i, o, D', ho, -, rfl, rfl, hD⟩
  · exact h of
  · have hmem := List.mem_of_getElem? ho
    rcases hD with ⟨-, h1, -, -, rfl⟩ | ⟨-, h1, -, rfl⟩
    · have := (h of).did ho h1 rfl m
      exact ⟨this.ok, this.ans, this.nn, this.busy, this.seen, this.hB, this.hO, this.mail⟩
    · exact (h of).ended ho 3 m.e m.e true (by decide) (no_mail rfl) (fun _ => (h of).busy o hmem (by omega))
theorem tickP_mem {s : Ses} {u : Int → Int} (h : s.Ok u) {m : Msg} (hm : m ∈ tickP s.l) : ∃ o ∈ s.l, o.nm = m.name := by
  unfold tickP at hm
  obtain ⟨o, ho, h1⟩ := List.mem_flatMap.1 hm
  refine ⟨o, ho, ?_⟩
  unfold tickM at h1
  split at h1
  · obtain rfl := List.mem_singleton.1 h1
    exact (execMay_iff (may_at1 (h.well.may o ho) (by assumption)).2.2).1.symm
  · split at h1
    · obtain rfl := List.mem_singleton.1 h1; rfl
    · exact absurd h1 (by simp)
theorem SI.tick {s : Ses} {f : Int → Int} {B O : List Nm} {u : Int → Int} (h : SI s f B O u) : DI ⟨s, { Tol.none with mail := tickP s.l }, zOf⟩ f B O u :=
  (h zOf).maileds fun _ hm => tickP_mem (h zOf).ok hm
theorem SI.anew {s : Ses} {f : Int → Int} {B O : List Nm} {u : Int → Int} (h : SI s f B O u) {sh i : Nat} {D : Dsk} (hA : AnewTo s sh i D) : DI D f B O u ∧ ∀ m ∈ D.t.mail, m.kind = 6 ∧ m.yes = false := by
  induction hA with
  | start => exact ⟨h zOf, no_mail rfl⟩
  | pass _ _ _ ih => exact ih
  | lose _ ho _ _ ih => exact ih.1.lost ho ih.2 sh
theorem bump_le (f : Int → Int) (h z : Int) : f z ≤ bump f h z := by
  unfold bump; split
  · rename_i e; rw [e]; omega
  · exact Int.le_refl _
theorem SI.bump {s : Ses} {f : Int → Int} {B O : List Nm} {u : Int → Int} (h : SI s f B O u) (k : Int) : SI s (bump f k) B O u := fun of =>
  let q := h of
  ⟨q.ok, AnsOk.nil _, fun z => Int.le_trans (q.nn z) (bump_le f k z), fun o ho hp => Int.le_trans (q.busy o ho hp) (bump_le f k _), q.seen, q.hB, q.hO, q.mail⟩
theorem SI.refused {s : Ses} {f : Int → Int} {B O : List Nm} {u : Int → Int} (h : SI s f B O u) (of : Of8) (c : Cal) (er : Int) : DI (Dsk.refused ⟨s, Tol.none, of⟩ c er) (if c.kind = 0 then f else Go.Proofs.Ytniijiipkfhjgaa.bump f c.h) B O u := by
  have q := h of
  have he : ansF (if c.kind = 0 then f else Go.Proofs.Ytniijiipkfhjgaa.bump f c.h) [⟨c.c, c.h, er, zV8, 0, c.kind⟩] = f := by
    funext z
    show ansG _ _ z = _
    unfold ansG
    by_cases h0 : c.kind = 0
    · rw [if_pos h0, if_pos h0]
    · rw [if_neg h0, if_neg h0]
      show (if z = c.h then (if c.h = c.h then f c.h + 1 else f c.h) - 1 else if z = c.h then f c.h + 1 else f z) = f z
      by_cases hz : z = c.h
      · rw [if_pos hz, if_pos rfl, hz]; omega
      · rw [if_neg hz, if_neg hz]
  refine ⟨q.ok, fun k y hy hk => ?_, fun z => ?_, fun o ho hp => ?_, q.seen, q.hB, q.hO, q.mail⟩
  · rcases snoc_get (l := []) hy with ⟨h1, -⟩ | ⟨h1, rfl, h3⟩
    · exact absurd h1 (by simp)
    · subst h1
      rw [if_neg hk]
      have := q.nn c.h
      show 1 ≤ (if c.h = c.h then f c.h + 1 else f c.h)
      rw [if_pos rfl]
      have : 0 ≤ f c.h := this
      omega
  · show 0 ≤ ansF _ [_] z; rw [he]; exact q.nn z
  · show 1 ≤ ansF _ [_] o.h; rw [he]; exact q.busy o ho hp
theorem SI.begin {s : Ses} {f : Int → Int} {B O : List Nm} {u : Int → Int} (h : SI s f B O u) (of : Of8) (c : Cal) (hk : c.kind = 0) {st : Int} (hst : 0 ≤ st ∧ st ≤ 1048576)
    (hu : c.stamp = 0 → (∀ o ∈ s.l, o.nm.stamp ≠ st) ∧ (∀ x ∈ s.over, x.stamp ≠ st) ∧ 1 ≤ u st) : DI (Dsk.begin ⟨s, Tol.none, of⟩ c st) f B O u := by
  unfold Dsk.begin
  split
  · rename_i hn
    obtain ⟨h1, h2, h3, st', tr, hnm, h4, h5, h6⟩ := nameP_ok (s := s) hn
    have q := h of
    rw [show (nameP (⟨s, Tol.none, of⟩ : Dsk).s c st).1 = ⟨st', s.inc, tr + 1⟩ from hnm]
    have key : 0 ≤ tr ∧ (1 ≤ st' ∧ st' ≤ 1048576) ∧ (∀ x ∈ s.over, x.stamp = st' → x.c = c.c ∧ x.try_ ≤ tr) ∧ 1 ≤ u st' := by
      rcases h6 with ⟨e1, rfl, rfl, e4⟩ | ⟨e1, rfl, rfl, e4⟩
      · obtain ⟨g1, g2, g3⟩ := hu e1
        exact ⟨by omega, by omega, fun x hx e => absurd e (g2 x hx), g3⟩
      · obtain ⟨x0, hx0, g1, g2⟩ := triesP_some _ e4
        have hEnd := q.ok.well.ends x0 hx0
        obtain ⟨-, -, -, hnam⟩ := hEnd
        have hr : (1 ≤ x0.stamp ∧ x0.stamp ≤ 1048576) ∧ 1 ≤ x0.try_ := by
          simp only [Nm.named, withinB, Bool.and_eq_true, decide_eq_true_eq] at hnam
          omega
        have hle := triesP_le hx0 g1 g2
        refine ⟨by omega, by rw [← g1]; exact hr.1, fun x hx e => ?_, by rw [← g1]; exact q.ok.usedO x0 hx0⟩
        have hc : x.c = c.c := by rw [← g2]; exact q.ok.one x hx x0 hx0 (by rw [e, g1])
        exact ⟨hc, triesP_le hx e hc⟩
    obtain ⟨k1, k2, k3, k4⟩ := key
    have hB0 : seenB B [(⟨0, ⟨st', s.inc, tr + 1⟩, 0, zV8, 0⟩ : Seen_)] = seenB B [] ++ [⟨st', s.inc, tr + 1⟩] := by
      have := seenB_snoc B [] ⟨0, ⟨st', s.inc, tr + 1⟩, 0, zV8, 0⟩
      rw [if_pos rfl] at this; exact this
    have hO0 : seenO O [(⟨0, ⟨st', s.inc, tr + 1⟩, 0, zV8, 0⟩ : Seen_)] = seenO O [] := by
      have := seenO_snoc O [] ⟨0, ⟨st', s.inc, tr + 1⟩, 0, zV8, 0⟩
      rw [if_neg (show (0 : Int) ≠ 4 by decide)] at this; exact this
    have hA : ∀ z, ansF f [(⟨c.c, s.last + 1, 0, zV8, st', c.kind⟩ : Ans)] z = f z := fun z => by
      show ansG f _ z = _
      unfold ansG; rw [if_pos hk]
    have hmem : ∀ o ∈ s.l ++ [newOpe (s.last + 1) c.c ⟨st', s.inc, tr + 1⟩], o ∈ s.l ∨ o = newOpe (s.last + 1) c.c ⟨st', s.inc, tr + 1⟩ := fun o ho => by simpa using ho
    refine ⟨q.ok.more h1 h2 h3 h4 ⟨k1, h5⟩ k2 k3 k4, fun k y hy hk' => ?_, fun z => ?_, fun o ho hp => ?_, fun k y hy => ?_, fun n => ?_, fun n => ?_, fun m hm => absurd hm (by simp [Tol.none])⟩
    · rcases snoc_get (l := []) hy with ⟨h7, -⟩ | ⟨-, rfl, -⟩
      · exact absurd h7 (by simp)
      · exact absurd hk hk'
    · show 0 ≤ ansF f [_] z; rw [hA]; exact q.nn z
    · show 1 ≤ ansF f [_] o.h
      rw [hA]
      rcases hmem o ho with h7 | rfl
      · exact q.busy o h7 hp
      · exact absurd rfl hp
    · rcases snoc_get (l := []) hy with ⟨h7, -⟩ | ⟨h7, rfl, -⟩
      · exact absurd h7 (by simp)
      · subst h7
        refine ⟨fun _ hin => ?_, fun e => absurd rfl e⟩
        rcases (q.hB _).1 hin with ⟨o, ho, e⟩ | ⟨x, hx, e⟩
        · exact h4 o ho (by rw [e])
        · have := (k3 x hx (congrArg Nm.stamp e)).2
          have e2 : x.try_ = tr + 1 := congrArg Nm.try_ e
          omega
    · show n ∈ seenB B [_] ↔ (∃ o ∈ s.l ++ [_], o.nm = n) ∨ ∃ x ∈ s.over, x.nm s.inc = n
      rw [hB0, List.mem_append, List.mem_singleton, show n ∈ seenB B [] ↔ _ from q.hB n]
      constructor
      · rintro ((⟨o, ho, e⟩ | h7) | e)
        · exact .inl ⟨o, List.mem_append_left _ ho, e⟩
        · exact .inr h7
        · exact .inl ⟨_, List.mem_append_right _ (List.mem_singleton.2 rfl), e.symm⟩
      · rintro (⟨o, ho, e⟩ | h7)
        · rcases hmem o ho with h8 | rfl
          · exact .inl (.inl ⟨o, h8, e⟩)
          · exact .inr e.symm
        · exact .inl (.inr h7)
    · show n ∈ seenO O [_] ↔ ∃ x ∈ s.over, x.nm s.inc = n
      rw [hO0]; exact q.hO n
  · have := h.refused of { c with h := 0 } (nameP s c st).2
    rw [if_pos (show ({ c with h := 0 } : Cal).kind = 0 from hk)] at this
    exact this
theorem SI.call {s : Ses} {f : Int → Int} {B O : List Nm} {u : Int → Int} (h : SI s f B O u) (of : Of8) (c : Cal) (bs : List UInt8) (hk : 0 ≤ c.kind ∧ c.kind ≤ 4) {st : Int} (hst : 0 ≤ st ∧ st ≤ 1048576)
    (hu : c.kind = 0 → c.stamp = 0 → (∀ o ∈ s.l, o.nm.stamp ≠ st) ∧ (∀ x ∈ s.over, x.stamp ≠ st) ∧ 1 ≤ u st) {D' : Dsk} (hR : Dsk.DoesR ⟨s, Tol.none, of⟩ c bs st D') : DI D' (if c.kind = 0 then f else Go.Proofs.Ytniijiipkfhjgaa.bump f c.h) B O u := by
  rcases hR with ⟨h0, rfl⟩ | ⟨h0, ⟨⟨er, rfl⟩, -⟩ | ⟨i, o, ho, e1, e2, hph, hD⟩⟩
  · rw [if_pos h0]; exact h.begin of c h0 hst (hu h0)
  · exact h.refused of c er
  · rw [if_neg h0]
    have q := h.bump c.h of
    have hb : 1 ≤ Go.Proofs.Ytniijiipkfhjgaa.bump f c.h o.h := by
      have := (h of).nn c.h
      have : 0 ≤ f c.h := this
      unfold Go.Proofs.Ytniijiipkfhjgaa.bump; rw [if_pos e1]; omega
    rcases hD with ⟨-, rfl⟩ | ⟨h4, rfl⟩ | ⟨-, rfl⟩
    · exact q.commit ho hph rfl hb
    · exact (q.refuse ho 0).ended ho c.kind 4 0 true h0 (refuse_all (no_mail rfl)) (fun _ => hb)
    · rcases q.touch ho (c := c) (bs := bs) hb with h5 | ⟨er, h5⟩
      · exact h5
      · have := h.refused of c er
        rw [if_neg h0] at this
        rw [h5]; exact this
end Go.Proofs.Ytniijiipkfhjgaa

namespace Go.Proofs.Ytniijiipkfhjgaa
open Go.RowKit Go.Sort
instance : DecidableEq Nm := fun _ _ => decidable_of_iff _ Nm.eqb_iff
def put2 (g : Int → Int → Int) (a b v : Int) : Int → Int → Int := fun x y => if x = a ∧ y = b then v else g x y
theorem put2_same {g : Int → Int → Int} {a b v : Int} (h : g a b = v) : put2 g a b v = g := by
  funext x y
  unfold put2
  split
  · rename_i e; rw [e.1, e.2, h]
  · rfl
/-- the handle of a name among these; 0: there is none -/
def hOf (l : List Ope) (n : Nm) : Int := l.foldl (fun a o => if o.nm = n then o.h else a) 0
theorem hOf_eq {l : List Ope} (hap : (keys l).Pairwise Apart) {o : Ope} (ho : o ∈ l) : hOf l o.nm = o.h := by
  have hu : ∀ q ∈ l, q.nm = o.nm → q.h = o.h := fun q hq e => by
    obtain ⟨i, hi⟩ := List.getElem?_of_mem ho
    obtain ⟨j, hj⟩ := List.getElem?_of_mem hq
    rcases Nat.lt_trichotomy i j with h | h | h
    · exact absurd (congrArg Nm.stamp e).symm (apart_get hap h hi hj).2
    · subst h; rw [hi] at hj; rw [Option.some.inj hj]
    · exact absurd (congrArg Nm.stamp e) (apart_get hap h hj hi).2
  have key : ∀ (l : List Ope) (a : Int), (∀ q ∈ l, q.nm = o.nm → q.h = o.h) → (a = o.h ∨ ∃ q ∈ l, q.nm = o.nm) → l.foldl (fun a q => if q.nm = o.nm then q.h else a) a = o.h := by
    intro l
    induction l with
    | nil =>
      rintro a - (h | ⟨q, hq, -⟩)
      · exact h
      · exact absurd hq (by simp)
    | cons q l ih =>
      intro a h1 h2
      rw [List.foldl_cons]
      refine ih _ (fun q hq => h1 q (List.mem_cons_of_mem _ hq)) ?_
      by_cases e : q.nm = o.nm
      · rw [if_pos e]; exact .inl (h1 q (by simp) e)
      · rw [if_neg e]
        rcases h2 with h2 | ⟨r, hr, e2⟩
        · exact .inl h2
        · rcases List.mem_cons.1 hr with rfl | h3
          · exact absurd e2 e
          · exact .inr ⟨r, h3, e2⟩
  exact key l 0 hu (.inr ⟨o, ho, rfl⟩)
def lastG (l : List Ope) (g : Int → Int → Int) (m : Msg) : Int → Int → Int := if m.kind = 2 then put2 g (hOf l m.name) m.to m.n else g
def lastF (l : List Ope) (g : Int → Int → Int) (ms : List Msg) : Int → Int → Int := ms.foldl (lastG l) g
theorem lastF_same {l : List Ope} {g : Int → Int → Int} : ∀ (ms : List Msg), (∀ m ∈ ms, m.kind = 2 → g (hOf l m.name) m.to = m.n) → lastF l g ms = g
  | [], _ => rfl
  | m :: ms, h => by
    have e : lastG l g m = g := by
      unfold lastG; split
      · exact put2_same (h m (by simp) (by assumption))
      · rfl
    show lastF l (lastG l g m) ms = g
    rw [e]; exact lastF_same ms fun q hq => h q (List.mem_cons_of_mem _ hq)
/-- the numbers of these messages are as the law wants them -/
def LastOk (tick : Prop) (l : List Ope) (g : Int → Int → Int) (ms : List Msg) : Prop := ∀ (k : Nat) (m : Msg), ms[k]? = some m → m.kind = 2 →
  hOf l m.name ≠ 0 ∧ lastF l g (ms.take k) (hOf l m.name) m.to ≤ m.n ∧ m.n ≤ lastF l g (ms.take k) (hOf l m.name) m.to + 1 ∧ (tick → m.n = lastF l g (ms.take k) (hOf l m.name) m.to) ∧ 0 ≤ lastF l g (ms.take k) (hOf l m.name) m.to ∧ lastF l g (ms.take k) (hOf l m.name) m.to ≤ 1048576
theorem LastOk.quiet {tick : Prop} {l : List Ope} {g : Int → Int → Int} {ms : List Msg} (h : ∀ m ∈ ms, m.kind ≠ 2) : LastOk tick l g ms ∧ lastF l g ms = g :=
  ⟨fun k m hm hk => absurd hk (h m (List.mem_of_getElem? hm)), lastF_same ms fun m hm hk => absurd hk (h m hm)⟩
/-- what is held of numbers and tries between two acts -/
structure NI (s : Ses) (g T : Int → Int → Int) : Prop where
  eq : ∀ o ∈ s.l, ∀ k : Nat, 1 ≤ k → k ≤ 4 → g o.h k = o.nAt k
  new : ∀ h k, s.last < h → g h k = 0
  t1 : ∀ o ∈ s.l, T o.c o.nm.stamp = o.nm.try_
  t2 : ∀ c st, (∀ o ∈ s.l, ¬ (o.c = c ∧ o.nm.stamp = st)) → T c st = triesP st c s.over
section
variable {s : Ses} {g T : Int → Int → Int} {u : Int → Int}
theorem NI.setO (h : NI s g T) {i : Nat} {o o' : Ope} (ho : s.l[i]? = some o) (e : o'.key = o.key) (hn : ∀ k, o'.nAt k = o.nAt k) : NI { s with l := s.l.set i o' } g T := by
  have hmem := List.mem_of_getElem? ho
  refine ⟨fun q hq k h1 h4 => ?_, h.new, fun q hq => ?_, fun c st hno => ?_⟩
  · rcases mem_set hq with h5 | rfl
    · exact h.eq q h5 k h1 h4
    · rw [show q.h = o.h from congrArg Key.h e, hn]; exact h.eq o hmem k h1 h4
  · rcases mem_set hq with h5 | rfl
    · exact h.t1 q h5
    · rw [show q.c = o.c from congrArg Key.c e, show q.nm = o.nm from congrArg Key.nm e]; exact h.t1 o hmem
  · refine h.t2 c st fun q hq e2 => ?_
    obtain ⟨k, hk, e3⟩ : ∃ k ∈ keys (s.l.set i o'), k = q.key := ⟨q.key, by rw [keys_set ho e]; exact mem_keys.2 ⟨q, hq, rfl⟩, rfl⟩
    obtain ⟨r, hr, e4⟩ := mem_keys.1 hk
    have e5 : r.key = q.key := by rw [e4, e3]
    refine hno r hr ⟨?_, ?_⟩
    · rw [show r.c = q.c from congrArg Key.c e5]; exact e2.1
    · rw [show r.nm = q.nm from congrArg Key.nm e5]; exact e2.2
theorem NI.end_ (h : NI s g T) (hok : s.Ok u) {i : Nat} {o : Ope} (ho : s.l[i]? = some o) (er : Int) : NI (s.end_ i o er) g T := by
  have hmem := List.mem_of_getElem? ho
  have hap := hok.well.apart
  obtain ⟨a1, -⟩ := may_named (hok.well.may o hmem)
  have htr : 1 ≤ o.nm.try_ := by
    simp only [Nm.named, withinB, Bool.and_eq_true, decide_eq_true_eq] at a1; omega
  refine ⟨fun q hq => h.eq q (List.mem_of_mem_eraseIdx hq), h.new, fun q hq => h.t1 q (List.mem_of_mem_eraseIdx hq), fun c st hno => ?_⟩
  show T c st = triesP st c (s.over ++ [_])
  rw [triesP_snoc]
  by_cases he : o.c = c ∧ o.nm.stamp = st
  · rw [if_pos ⟨he.2, he.1⟩]
    have h1 := h.t1 o hmem
    rw [he.1, he.2] at h1
    rw [h1]
    have h2 : triesP st c s.over < o.nm.try_ := triesP_lt (by omega) s.over fun x hx e1 e2 => (hok.own o hmem x hx (by rw [he.2, e1])).2
    show _ = max _ o.nm.try_
    omega
  · rw [if_neg (fun e => he ⟨e.2, e.1⟩)]
    refine h.t2 c st fun q hq e => ?_
    by_cases hh : q.h = o.h
    · have : q = o := by
        obtain ⟨j, hj⟩ := List.getElem?_of_mem hq
        rcases Nat.lt_trichotomy j i with h2 | h2 | h2
        · have := (apart_get hap h2 hj ho).1; omega
        · subst h2; rw [ho] at hj; exact (Option.some.inj hj).symm
        · have := (apart_get hap h2 ho hj).1; omega
      subst this; exact he e
    · exact hno q (mem_of_ne ho hq hh) e
theorem NI.more (h : NI s g T) (hok : s.Ok u) {c st tr : Int} (hno : ∀ o ∈ s.l, o.nm.stamp ≠ st) (ht : T c st ≤ tr) : NI (s.more c ⟨st, s.inc, tr + 1⟩) g (put2 T c st (max (T c st) (tr + 1))) := by
  have hmem : ∀ q ∈ s.l ++ [newOpe (s.last + 1) c ⟨st, s.inc, tr + 1⟩], q ∈ s.l ∨ q = newOpe (s.last + 1) c ⟨st, s.inc, tr + 1⟩ := fun q hq => by simpa using hq
  refine ⟨fun q hq k h1 h4 => ?_, fun z k hz => h.new z k (by have : s.last + 1 < z := hz; omega), fun q hq => ?_, fun c' st' hno' => ?_⟩
  · rcases hmem q hq with h5 | rfl
    · exact h.eq q h5 k h1 h4
    · show g (s.last + 1) k = Ope.nAt _ k
      rw [h.new _ _ (by omega)]
      have : k = 1 ∨ k = 2 ∨ k = 3 ∨ k = 4 := by omega
      rcases this with rfl | rfl | rfl | rfl <;> rfl
  · rcases hmem q hq with h5 | rfl
    · unfold put2; rw [if_neg (fun e => hno q h5 e.2)]; exact h.t1 q h5
    · show put2 T c st _ c st = tr + 1
      unfold put2; rw [if_pos ⟨rfl, rfl⟩]; omega
  · have h6 : ¬ (c' = c ∧ st' = st) := fun e => hno' _ (List.mem_append_right _ (List.mem_singleton.2 rfl)) ⟨e.1.symm, e.2.symm⟩
    show put2 T c st _ c' st' = triesP st' c' s.over
    unfold put2; rw [if_neg h6]
    exact h.t2 c' st' fun q hq => hno' q (List.mem_append_left _ hq)
theorem NI.exec (h : NI s g T) (hok : s.Ok u) {i : Nat} {o : Ope} (ho : s.l[i]? = some o) {k : Nat} (h1 : 1 ≤ k) (h4 : k ≤ 4) (x : Msg) : NI { s with l := s.l.set i (o.execd k x) } (put2 g o.h k (o.nAt k + 1)) T := by
  have hmem := List.mem_of_getElem? ho
  have hap := hok.well.apart
  have hil := (List.getElem?_eq_some_iff.1 ho).1
  refine ⟨fun q hq j j1 j4 => ?_, fun z j hz => ?_, fun q hq => ?_, fun c st hno => ?_⟩
  · obtain ⟨r, hr⟩ := List.getElem?_of_mem hq
    rw [List.getElem?_set] at hr
    split at hr
    · rename_i e; subst e
      obtain rfl := Option.some.inj hr
      show put2 g o.h k _ o.h j = (o.execd k x).nAt j
      unfold put2
      by_cases e : j = k
      · subst e
        rw [if_pos ⟨rfl, rfl⟩]; exact (Ope.nAt_set o _ j4).symm
      · rw [if_neg (by omega), h.eq o hmem j j1 j4]; exact (Ope.nAt_ne o _ h4 j4 e).symm
    · rename_i e
      have hne : q.h ≠ o.h := by
        rcases Nat.lt_or_gt_of_ne e with h2 | h2
        · have := (apart_get hap h2 ho hr).1; omega
        · have := (apart_get hap h2 hr ho).1; omega
      unfold put2
      rw [if_neg (fun e => hne e.1)]; exact h.eq q (List.mem_of_getElem? hr) j j1 j4
  · have := (hok.well.pos o hmem).2
    have hz' : s.last < z := hz
    unfold put2; rw [if_neg (by omega)]; exact h.new z j hz'
  · rcases mem_set hq with h5 | rfl
    · exact h.t1 q h5
    · exact h.t1 o hmem
  · refine h.t2 c st fun q hq e2 => ?_
    obtain ⟨k', hk, e3⟩ : ∃ k' ∈ keys (s.l.set i (o.execd k x)), k' = q.key := by
      have h9 := keys_set (o' := o.execd k x) ho rfl
      exact ⟨q.key, h9 ▸ mem_keys.2 ⟨q, by first | exact hq | (show q ∈ _; exact hq), rfl⟩, rfl⟩
    obtain ⟨r, hr, e4⟩ := mem_keys.1 hk
    have e5 : r.key = q.key := by rw [e4, e3]
    refine hno r hr ⟨?_, ?_⟩
    · rw [show r.c = q.c from congrArg Key.c e5]; exact e2.1
    · rw [show r.nm = q.nm from congrArg Key.nm e5]; exact e2.2
end
/-- what the law of numbers wants of a step -/
def NumR (s : Ses) (s' : Ses) (t' : Tol) (g T : Int → Int → Int) (c : Cal) (tick : Prop) : Prop :=
  LastOk tick s'.l g t'.mail ∧ ((s'.last = s.last ∧ NI s' (lastF s'.l g t'.mail) T) ∨
    ∃ st tr, s'.last = s.last + 1 ∧ s'.l = s.l ++ [newOpe (s.last + 1) c.c ⟨st, s.inc, tr + 1⟩] ∧ (0 ≤ T c.c st ∧ T c.c st ≤ tr ∧ tr < 1048576) ∧ (c.stamp ≠ 0 → tr = T c.c st) ∧ NI s' (lastF s'.l g t'.mail) (put2 T c.c st (max (T c.c st) (tr + 1))))
theorem NumR.calm {s s' : Ses} {t' : Tol} {g T : Int → Int → Int} {c : Cal} {tick : Prop} (hq : ∀ m ∈ t'.mail, m.kind ≠ 2) (hl : s'.last = s.last) (h : NI s' g T) : NumR s s' t' g T c tick :=
  ⟨(LastOk.quiet hq).1, .inl ⟨hl, by rw [(LastOk.quiet (tick := tick) (l := s'.l) (g := g) hq).2]; exact h⟩⟩
theorem refuse_quiet (o : Ope) (but : Int) : ∀ m ∈ refuseP o but 4, m.kind ≠ 2 := fun m hm e => by
  rw [(refuseP_mem o but 4 m hm).1] at e; exact absurd e (by decide)
theorem NumR.execd {s : Ses} {of : Of8} {g T : Int → Int → Int} {u : Int → Int} {c : Cal} {i : Nat} {o : Ope} {x : Msg} (h : NI s g T) (hok : s.Ok u) (ho : s.l[i]? = some o) (he : execOk ⟨s, Tol.none, of⟩ o x)
    (hap' : (keys (Dsk.execd ⟨s, Tol.none, of⟩ i o x).s.l).Pairwise Apart) : NumR s (Dsk.execd ⟨s, Tol.none, of⟩ i o x).s (Dsk.execd ⟨s, Tol.none, of⟩ i o x).t g T c False := by
  have hmem := List.mem_of_getElem? ho
  have hsb := shard_bd he.1
  have hil := (List.getElem?_eq_some_iff.1 ho).1
  generalize hk : (shardV of x.block).toNat = k
  have hsb' : 1 ≤ k ∧ k ≤ 4 := by have : 1 ≤ shardV of x.block ∧ shardV of x.block ≤ 4 := hsb; omega
  have hD : Dsk.execd ⟨s, Tol.none, of⟩ i o x = ⟨{ s with l := s.l.set i (o.execd k x) }, { Tol.none with mail := [o.ex1 k x] }, of⟩ := by
    unfold Dsk.execd
    show (Dsk.setO _ i (o.execd (shardV of x.block).toNat x)).mail (o.ex1 (shardV of x.block).toNat x) = _
    rw [hk]; rfl
  rw [hD] at hap' ⊢
  have hh : hOf (s.l.set i (o.execd k x)) o.nm = o.h := hOf_eq (o := o.execd k x) hap' (List.mem_of_getElem? (i := i) (by simp [hil]))
  have hb := touched_bd (may_named (hok.well.may o hmem)).2.2.2 k
  have hg := h.eq o hmem k hsb'.1 hsb'.2
  have hn := he.2
  refine ⟨fun j m hm hm2 => ?_, .inl ⟨rfl, ?_⟩⟩
  · rcases snoc_get (l := []) hm with ⟨h1, -⟩ | ⟨h1, rfl, -⟩
    · exact absurd h1 (by simp)
    · subst h1
      show hOf (s.l.set i (o.execd k x)) o.nm ≠ 0 ∧ g (hOf (s.l.set i (o.execd k x)) o.nm) k ≤ o.nAt k + 1 ∧ o.nAt k + 1 ≤ g (hOf (s.l.set i (o.execd k x)) o.nm) k + 1 ∧ (False → _) ∧ 0 ≤ g (hOf (s.l.set i (o.execd k x)) o.nm) k ∧ g (hOf (s.l.set i (o.execd k x)) o.nm) k ≤ 1048576
      rw [hh, hg]
      have := (hok.well.pos o hmem).1
      exact ⟨by omega, by omega, by omega, fun e => e.elim, by omega, by omega⟩
  · show NI _ (lastG (s.l.set i (o.execd k x)) g (o.ex1 k x)) T
    unfold lastG
    rw [if_pos (show (o.ex1 k x).kind = 2 from rfl)]
    show NI _ (put2 g (hOf (s.l.set i (o.execd k x)) o.nm) k (o.nAt k + 1)) T
    rw [hh]
    exact h.exec hok ho hsb'.1 hsb'.2 x
theorem NI.tick {s : Ses} {g T : Int → Int → Int} {u : Int → Int} (c : Cal) (tick : Prop) (h : NI s g T) (hok : s.Ok u) : NumR s s { Tol.none with mail := tickP s.l } g T c tick := by
  have hall : ∀ m ∈ tickP s.l, m.kind = 2 → ∃ o ∈ s.l, o.nm = m.name ∧ g o.h m.to = m.n ∧ 0 ≤ m.n ∧ m.n ≤ 1048576 := fun m hm hk => by
    unfold tickP at hm
    obtain ⟨o, ho, h1⟩ := List.mem_flatMap.1 hm
    unfold tickM at h1
    split at h1
    · rename_i hp
      obtain rfl := List.mem_singleton.1 h1
      obtain ⟨g1, g2, g3⟩ := may_at1 (hok.well.may o ho) hp
      obtain ⟨e1, e2, e3, e4, -⟩ := execMay_iff g3
      have hb := touched_bd (may_named (hok.well.may o ho)).2.2.2 o.at_.toNat
      refine ⟨o, ho, e1.symm, ?_, by omega, by omega⟩
      have := h.eq o ho o.at_.toNat (by omega) (by omega)
      rw [e3, e4, ← this, Int.toNat_of_nonneg (by omega)]
    · split at h1
      · obtain rfl := List.mem_singleton.1 h1; exact absurd hk (by show ¬ (9 : Int) = 2; decide)
      · exact absurd h1 (by simp)
  have hsame : ∀ m ∈ tickP s.l, m.kind = 2 → g (hOf s.l m.name) m.to = m.n := fun m hm hk => by
    obtain ⟨o, ho, e1, e2, -⟩ := hall m hm hk
    rw [← e1, hOf_eq hok.well.apart ho]; exact e2
  refine ⟨fun k m hm hk => ?_, .inl ⟨rfl, ?_⟩⟩
  · have hm' := List.mem_of_getElem? hm
    obtain ⟨o, ho, e1, e2, e3, e4⟩ := hall m hm' hk
    have := hsame m hm' hk
    have hF : lastF s.l g (List.take k (tickP s.l)) = g := lastF_same _ fun q hq => hsame q (List.mem_of_mem_take hq)
    show hOf s.l m.name ≠ 0 ∧ lastF s.l g (List.take k (tickP s.l)) (hOf s.l m.name) m.to ≤ m.n ∧ m.n ≤ lastF s.l g (List.take k (tickP s.l)) (hOf s.l m.name) m.to + 1 ∧ (_ → m.n = lastF s.l g (List.take k (tickP s.l)) (hOf s.l m.name) m.to) ∧ 0 ≤ lastF s.l g (List.take k (tickP s.l)) (hOf s.l m.name) m.to ∧ lastF s.l g (List.take k (tickP s.l)) (hOf s.l m.name) m.to ≤ 1048576
    rw [hF, this]
    have hp := (hok.well.pos o ho).1
    refine ⟨?_, by omega, by omega, fun _ => rfl, e3, e4⟩
    rw [← e1, hOf_eq hok.well.apart ho]; omega
  · show NI s (lastF s.l g (tickP s.l)) T
    rw [lastF_same _ hsame]; exact h
theorem NI.endR {s s' : Ses} {t' : Tol} {g T : Int → Int → Int} {u : Int → Int} (c : Cal) (tick : Prop) (h : NI s g T) (hok : s.Ok u) {n : Nm} {er : Int} (hR : EndR s n er s' t') : NumR s s' t' g T c tick := by
  obtain ⟨i, o, D', ho, -, hph, rfl, rfl, hD⟩ := hR
  rcases hD with ⟨-, rfl⟩ | ⟨-, rfl⟩ | ⟨-, rfl⟩
  · exact NumR.calm (fun m hm => absurd hm (by simp [Dsk.ended, Tol.none])) rfl (h.end_ hok ho 0)
  · exact NumR.calm (fun m hm => refuse_quiet o 0 m (by simpa [Dsk.ended, Tol.none] using hm)) rfl (h.end_ hok ho 50)
  · exact NumR.calm (fun m hm => absurd hm (by simp [Dsk.ended, Tol.none])) rfl (h.end_ hok ho 121)
theorem NI.hear {s s' : Ses} {t' : Tol} {g T : Int → Int → Int} {u : Int → Int} (c : Cal) (h : NI s g T) (hok : s.Ok u) {of : Of8} {m : Msg} (hap : (keys s'.l).Pairwise Apart) (hR : HearR s of m s' t') : NumR s s' t' g T c False := by
  rcases hR with ⟨rfl, rfl, -⟩ | ⟨i, o, D', ho, -, rfl, rfl, hD⟩
  · exact NumR.calm (fun m hm => absurd hm (by simp [Tol.none])) rfl h
  · rcases hD with ⟨-, h1, -, -, rfl⟩ | ⟨-, h1, -, rfl⟩
    · unfold Dsk.did at hap ⊢
      split at hap
      · rw [if_pos (by assumption)]
        exact NumR.calm (fun m hm => absurd hm (by simp [Tol.none])) rfl (h.setO ho rfl (fun k => by rcases k with _ | _ | _ | _ | k <;> rfl))
      · rw [if_neg (by assumption)]
        split at hap
        · rename_i h2
          rw [if_pos h2]
          exact NumR.execd h hok ho h2.2 hap
        · rw [if_neg (by assumption)]
          exact NumR.calm (fun q hm => refuse_quiet o m.frm q (by simpa [Dsk.ended, Tol.none] using hm)) rfl (h.end_ hok ho m.e)
    · exact NumR.calm (fun m hm => absurd hm (by simp [Dsk.ended, Tol.none])) rfl (h.end_ hok ho m.e)
theorem NI.anew {s : Ses} {g T : Int → Int → Int} {f : Int → Int} {B O : List Nm} {u : Int → Int} (c : Cal) (tick : Prop) (h : NI s g T) (hS : SI s f B O u) {sh i : Nat} {D : Dsk} (hA : AnewTo s sh i D) : NumR s D.s D.t g T c tick := by
  have key : D.s.last = s.last ∧ NI D.s g T := by
    induction hA with
    | start => exact ⟨rfl, h⟩
    | pass _ _ _ ih => exact ih
    | @lose i D o hA ho h1 h2 ih =>
      have hok := (hS.anew hA).1.ok
      have := ih.2.end_ hok ho
      unfold Dsk.lost
      split
      · exact ⟨ih.1, this 121⟩
      · exact ⟨ih.1, this 122⟩
  exact NumR.calm (fun m hm e => by rw [((hS.anew hA).2 m hm).1] at e; exact absurd e (by decide)) key.1 key.2
theorem NI.call {s : Ses} {g T : Int → Int → Int} {u : Int → Int} (h : NI s g T) (hok : s.Ok u) (of : Of8) (c : Cal) (bs : List UInt8) {st : Int}
    (hu : c.kind = 0 → c.stamp = 0 → (∀ x ∈ s.over, x.stamp ≠ st)) {D' : Dsk} (hap : (keys D'.s.l).Pairwise Apart) (hR : Dsk.DoesR ⟨s, Tol.none, of⟩ c bs st D') : NumR s D'.s D'.t g T c False := by
  have href : ∀ (c' : Cal) er, NumR s (Dsk.refused ⟨s, Tol.none, of⟩ c' er).s (Dsk.refused ⟨s, Tol.none, of⟩ c' er).t g T c False := fun c' er => NumR.calm (fun m hm => absurd hm (by simp [Tol.none])) rfl h
  rcases hR with ⟨h0, rfl⟩ | ⟨h0, ⟨⟨er, rfl⟩, -⟩ | ⟨i, o, ho, e1, e2, hph, hD⟩⟩
  · unfold Dsk.begin
    split
    · rename_i hn
      obtain ⟨h1, h2, h3, st', tr, hnm, h4, h5, h6⟩ := nameP_ok (s := s) hn
      rw [show (nameP (⟨s, Tol.none, of⟩ : Dsk).s c st).1 = ⟨st', s.inc, tr + 1⟩ from hnm]
      have hT : T c.c st' = triesP st' c.c s.over := h.t2 c.c st' fun q hq e => h4 q hq e.2
      have hT2 : 0 ≤ T c.c st' ∧ T c.c st' ≤ tr ∧ (c.stamp ≠ 0 → tr = T c.c st') := by
        rcases h6 with ⟨g1, rfl, rfl, -⟩ | ⟨g1, rfl, rfl, g4⟩
        · rw [hT, triesP_all s.over fun x hx e => hu h0 g1 x hx e.1]
          exact ⟨by omega, by omega, fun e => absurd g1 e⟩
        · rw [hT]
          obtain ⟨x0, hx0, q1, q2⟩ := triesP_some _ g4
          have hle := triesP_le hx0 q1 q2
          have htr : 0 ≤ x0.try_ := (hok.well.toMay.tries x0 hx0).1
          exact ⟨by omega, by omega, fun _ => rfl⟩
      refine ⟨(LastOk.quiet (fun m hm => absurd hm (by simp [Tol.none]))).1, .inr ⟨st', tr, rfl, rfl, ⟨hT2.1, hT2.2.1, h5⟩, hT2.2.2, ?_⟩⟩
      exact h.more hok h4 hT2.2.1
    · exact href _ _
  · exact href _ _
  · rcases hD with ⟨-, rfl⟩ | ⟨h4, rfl⟩ | ⟨-, rfl⟩
    · unfold Dsk.commit Dsk.commit0
      split
      · exact NumR.calm (fun m hm => absurd hm (by simp [Dsk.ended, Tol.none])) rfl (h.end_ hok ho 0)
      · split
        · refine NumR.calm (fun m hm => ?_) rfl (h.setO (o' := { o with ph := 2, at_ := loneB o.sh }) ho rfl (fun k => by rcases k with _ | _ | _ | _ | k <;> rfl))
          have : m = ({ o with ph := 2, at_ := loneB o.sh } : Ope).fast := by simpa [Tol.none] using hm
          rw [this]; show (9 : Int) ≠ 2; decide
        · exact NumR.calm (fun m hm => absurd hm (by simp [Tol.none])) rfl (h.setO (o' := { o with ph := 3 }) ho rfl (fun k => by rcases k with _ | _ | _ | _ | k <;> rfl))
    · exact NumR.calm (fun m hm => refuse_quiet o 0 m (by simpa [Dsk.ended, Tol.none] using hm)) rfl (h.end_ hok ho 4)
    · unfold Dsk.touch at hap ⊢
      split at hap
      · rw [if_pos (by assumption)]; exact href _ _
      · rw [if_neg (by assumption)]
        split at hap
        · rw [if_pos (by assumption)]; exact href _ _
        · rw [if_neg (by assumption)]
          split at hap
          · rw [if_pos (by assumption)]; exact NumR.execd h hok ho (by assumption) hap
          · rw [if_neg (by assumption)]; exact href _ _
end Go.Proofs.Ytniijiipkfhjgaa

namespace Go.Proofs.Ytniijiipkfhjgaa
open Go.RowKit Go.Sort
/-- where it is known not to be refused, and what comes of it -/
theorem StepN.known {wo w' : World} {A : List Ent} {e : Ending} {N : Prop} {R : Ses → Tol → Prop} (h : StepN wo A e w' N R) (hN : ¬ N) {s1 : Ses} {t1 : Tol} (hR : ∀ s t, R s t → s = s1 ∧ t = t1) :
    ∃ rl ro rm ra rs rc re : Rw, e = .returned (.tuple #[.agg (sesL s1 rl ro).toArray, .agg (tolL t1 rm ra rs rc re).toArray, .int .i64 0]) ∧ Mem wo w' (sesE s1 rl ro ++ (tolE t1 rm ra rs rc re ++ A)) := by
  obtain ⟨s, t, er, rl, ro, rm, ra, rs, rc, re, h1, h2, h3, h4⟩ := h
  have h5 : er = 0 := by
    rcases Decidable.em (er = 0) with h | h
    · exact h
    · exact absurd (h4 h) hN
  subst h5
  obtain ⟨rfl, rfl⟩ := hR s t (h3 rfl)
  exact ⟨rl, ro, rm, ra, rs, rc, re, h1, h2⟩
abbrev wOf : Of8 := ⟨1, 2, 1, 2, 1, 2, 1, 2⟩
abbrev wN : Nm := ⟨7, 1, 1⟩
abbrev wO1 : Ope := ⟨1, 3, wN, 0, 0, 0, 0, 0, 0, 0, 0, zMg⟩
abbrev wM : Msg := ⟨2, 0, 2, 0, 0, wN, 1, 0, 5, zV8, 0, false, 0, 0⟩
abbrev wO2 : Ope := ⟨1, 3, wN, 1, 4, 0, 0, 1, 0, 0, 2, wM⟩
abbrev wO3 : Ope := ⟨1, 3, wN, 0, 4, 0, 0, 1, 0, 0, 0, zMg⟩
abbrev wO4 : Ope := ⟨1, 3, wN, 2, 4, 0, 0, 1, 0, 0, 2, zMg⟩
abbrev wV : V8 := ⟨4, 0, 0, 0, 0, 0, 0, 0⟩
abbrev wD : Msg := ⟨3, 2, 0, 1, 1, wN, 1, 0, 0, wV, 0, false, 0, 0⟩
abbrev wS0 : Ses := ⟨[], 0, 1, []⟩
abbrev wS1 : Ses := ⟨[wO1], 1, 1, []⟩
abbrev wS2 : Ses := ⟨[wO2], 1, 1, []⟩
abbrev wS3 : Ses := ⟨[wO3], 1, 1, []⟩
abbrev wS4 : Ses := ⟨[wO4], 1, 1, []⟩
abbrev wT1 : Tol := ⟨[], [⟨3, 1, 0, zV8, 7, 0⟩], [⟨0, wN, 0, zV8, 0⟩], [], []⟩
abbrev wT2 : Tol := ⟨[wM], [], [], [], []⟩
abbrev wT3 : Tol := ⟨[], [⟨3, 1, 0, wV, 7, 1⟩], [⟨1, wN, 5, wV, 0⟩], [], []⟩
abbrev wT4 : Tol := ⟨[⟨9, 0, 2, 0, 0, wN, 0, 0, 0, zV8, 0, false, 0, 0⟩], [], [⟨3, wN, 0, zV8, 0⟩], [], []⟩
abbrev wC1 : Cal := ⟨0, 3, 0, 0, 0⟩
abbrev wC2 : Cal := ⟨1, 3, 1, 5, 0⟩
abbrev wC3 : Cal := ⟨3, 3, 1, 0, 0⟩
theorem wk1 : Dsk.begin ⟨wS0, Tol.none, wOf⟩ wC1 7 = ⟨wS1, wT1, wOf⟩ := by kernel_rfl
theorem wk2 : Dsk.touch ⟨wS1, Tol.none, wOf⟩ 0 wO1 wC2 [] = ⟨wS2, wT2, wOf⟩ := by kernel_rfl
theorem wk3 : Dsk.did ⟨wS2, Tol.none, wOf⟩ 0 wO2 wD = ⟨wS3, wT3, wOf⟩ := by kernel_rfl
theorem wk4 : Dsk.commit ⟨wS3, Tol.none, wOf⟩ 0 wO3 = ⟨wS4, wT4, wOf⟩ := by kernel_rfl
theorem one_get {α : Type} {a b : α} {i : Nat} (h : [a][i]? = some b) : i = 0 ∧ b = a := by
  cases i with
  | zero => exact ⟨rfl, (Option.some.inj h).symm⟩
  | succ i => exact absurd h (by simp)
theorem wk1R {D' : Dsk} (h : Dsk.DoesR ⟨wS0, Tol.none, wOf⟩ wC1 [] 7 D') : D' = ⟨wS1, wT1, wOf⟩ := by
  rcases h with ⟨-, rfl⟩ | ⟨h, -⟩
  · exact wk1
  · exact absurd rfl h
theorem wk2R {D' : Dsk} (h : Dsk.DoesR ⟨wS1, Tol.none, wOf⟩ wC2 [] 0 D') : D' = ⟨wS2, wT2, wOf⟩ := by
  rcases h with ⟨h, -⟩ | ⟨-, ⟨-, h⟩ | ⟨i, o, ho, -, -, -, hD⟩⟩
  · exact absurd h (by decide)
  · exact absurd rfl (h rfl wO1 rfl rfl rfl)
  · obtain ⟨rfl, rfl⟩ := one_get ho
    rcases hD with ⟨h, -⟩ | ⟨h, -⟩ | ⟨-, rfl⟩
    · exact absurd h (by decide)
    · exact absurd h (by decide)
    · exact wk2
theorem wk3R {s : Ses} {t : Tol} (h : HearR wS2 wOf wD s t) : s = wS3 ∧ t = wT3 := by
  rcases h with ⟨-, -, h⟩ | ⟨i, o, D', ho, -, rfl, rfl, hD⟩
  · exact absurd rfl (h wO2 rfl rfl rfl rfl rfl)
  · obtain ⟨rfl, rfl⟩ := one_get ho
    rcases hD with ⟨-, -, -, -, rfl⟩ | ⟨h, -⟩
    · rw [wk3]; exact ⟨rfl, rfl⟩
    · exact absurd h (by decide)
theorem wk4R {D' : Dsk} (h : Dsk.DoesR ⟨wS3, Tol.none, wOf⟩ wC3 [] 0 D') : D' = ⟨wS4, wT4, wOf⟩ := by
  rcases h with ⟨h, -⟩ | ⟨-, ⟨-, h⟩ | ⟨i, o, ho, -, -, -, hD⟩⟩
  · exact absurd h (by decide)
  · exact absurd rfl (h rfl wO3 rfl rfl rfl)
  · obtain ⟨rfl, rfl⟩ := one_get ho
    rcases hD with ⟨-, rfl⟩ | ⟨h, -⟩ | ⟨h, -⟩
    · exact wk4
    · exact absurd h (by decide)
    · exact absurd rfl h.1
abbrev wU : Int → Int := fun _ => 1
theorem wI1 : DI ⟨wS1, wT1, wOf⟩ (fun _ => 0) [] [] wU := by
  rw [← wk1]
  exact (SI.start (u := wU)).begin wOf wC1 rfl (by omega) fun _ => ⟨fun o ho => absurd ho (by simp), fun o ho => absurd ho (by simp), Int.le_refl _⟩
theorem wI2 : ∃ f B O, DI ⟨wS2, wT2, wOf⟩ f B O wU :=
  ⟨_, _, _, (wI1.next).call wOf wC2 [] (by decide) (st := 0) (by decide) (fun h => absurd h (by decide)) (.inr ⟨by decide, .inr ⟨0, wO1, rfl, rfl, rfl, rfl, .inr (.inr ⟨by decide, wk2.symm⟩)⟩⟩)⟩
theorem wI3 : ∃ f B O, DI ⟨wS3, wT3, wOf⟩ f B O wU := by
  obtain ⟨f, B, O, h⟩ := wI2
  exact ⟨_, _, _, h.next.hear (of := wOf) (m := wD) (.inr ⟨0, wO2, ⟨wS3, wT3, wOf⟩, rfl, rfl, rfl, rfl, .inl ⟨rfl, rfl, rfl, rfl, wk3.symm⟩⟩)⟩
theorem wMay0 : wS0.May := ((SI.start (u := wU)) zOf).ok.well.toMay
theorem wMay1 : wS1.May := wI1.ok.well.toMay
theorem wMay2 : wS2.May := let ⟨_, _, _, h⟩ := wI2; h.ok.well.toMay
theorem wMay3 : wS3.May := let ⟨_, _, _, h⟩ := wI3; h.ok.well.toMay
theorem wSh2 : ∀ o ∈ wS2.l, ShOk o.sh := let ⟨_, _, _, h⟩ := wI2; h.ok.well.shok
theorem wSh3 : ∀ o ∈ wS3.l, ShOk o.sh := let ⟨_, _, _, h⟩ := wI3; h.ok.well.shok
theorem wDmay : wD.may [] = true := by kernel_rfl
theorem bs_nil {wo : World} {A : List Ent} : RdH wo A (.slice none ([] : List UInt8).length 0) [] := fun _ _ => Rd.nil _ _ _ _
set_option maxHeartbeats 4000000 in
theorem wakes24_any (w : World) : Calls Try.prog 6 #[] w fun e w' => e = .returned (.bool true) ∧ Below w.heap.size w w' := by
  have M := Mem.start w
  refine calls_enter Try.func6 rfl 135 rfl rfl ?_; intro a S
  refine nxD ?_
  refine st_go [1] S rfl (by kernel_rfl) ?_; clear S a; intro a S
  refine nxA ?_
  refine st_call (xs := [(Operand.const (Value.int IntKind.i64 1))]) S (enters_of Try.func7 (by decide) rfl) rfl rfl rfl (new_any 1 _) ?_
  rintro _ w1 ⟨la, k, er, rfl, hK, hnew⟩
  obtain ⟨rfl, rfl, rfl⟩ := hnew (by omega)
  refine ⟨_, rfl, ?_⟩; clear S a; intro a S; replace M := M.grow hK
  refine st_go [1, 1, 1] S rfl (by kernel_rfl) ?_; clear S a; intro a S
  refine st_alloc S M rfl rfl #[.slice none 0 0, .int .i64 0, .int .i64 0, .slice none 0 0] (by kernel_rfl) ?_; clear S M a; intro a w2 bS S M hB
  refine st_store (sz := 4) (us := [_, _, _, _]) S M 0 rfl (by kernel_rfl) rfl rfl rfl rfl rfl rfl (by first | decide | (simp; done) | (simp; omega)) ?_; clear M; intro w3 M
  simp only [putL, List.set_cons_zero, List.set_cons_succ, Nat.reduceAdd] at M
  refine st_go [1] S rfl (by kernel_rfl) ?_; clear S a; intro a S
  refine nxA ?_
  refine st_y S rfl rfl rfl (y_buildA (ps := [(0, (Operand.const (Value.int IntKind.i64 1))), (1, (Operand.const (Value.int IntKind.i64 2))), (2, (Operand.const (Value.int IntKind.i64 1))), (3, (Operand.const (Value.int IntKind.i64 2))), (4, (Operand.const (Value.int IntKind.i64 1))), (5, (Operand.const (Value.int IntKind.i64 2))), (6, (Operand.const (Value.int IntKind.i64 1))), (7, (Operand.const (Value.int IntKind.i64 2)))]) (sz := 1) (z := [.int .i64 0, .int .i64 0, .int .i64 0, .int .i64 0, .int .i64 0, .int .i64 0, .int .i64 0, .int .i64 0]) (cs := [_, _, _, _, _, _, _, _]) S (by kernel_rfl) rfl rfl) ?_; clear S a; intro a S
  refine st_alloc S M rfl rfl #[.int .i64 0, .int .i64 0, .int .i64 0, .int .i64 0, .int .i64 0, .int .i64 0, .int .i64 0, .int .i64 0] (by kernel_rfl) ?_; clear S M a; intro a w4 bF S M hB
  refine st_store (sz := 8) (us := [_, _, _, _, _, _, _, _]) S M 0 rfl (by kernel_rfl) rfl rfl rfl rfl rfl rfl (by first | decide | (simp; done) | (simp; omega)) ?_; clear M; intro w5 M
  simp only [putL, List.set_cons_zero, List.set_cons_succ, Nat.reduceAdd] at M
  refine nxA ?_
  refine st_y S rfl rfl rfl (y_loadAgg (cs := [_, _, _, _]) S (by kernel_rfl) rfl rfl (M.cellsAt (k := 4) 1 rfl rfl)) ?_; clear S a; intro a S
  refine st_y S rfl rfl rfl (y_build (ps := [(1, (Operand.const (Value.int IntKind.i64 3)))]) (pl := [(0, 1), (1, 1), (2, 1), (3, 1), (4, 1), (5, 1)]) (z := [.int .i8 0, .int .i64 0, .int .i64 0, .int .i64 0, .slice none 0 0, .int .i64 0]) (cs := [_, _, _, _, _, _]) S (by kernel_rfl) rfl (rfl)) ?_; clear S a; intro a S
  refine st_y S rfl rfl rfl (y_loadAgg (cs := [_, _, _, _, _, _, _, _]) S (by kernel_rfl) rfl rfl (M.cellsAt (k := 8) 0 rfl rfl)) ?_; clear S a; intro a S
  refine st_call (xs := [(Operand.tmp 21), (Operand.tmp 22), (Operand.tmp 23), (Operand.const (Value.int IntKind.i64 7))]) S (enters_of Try.func9 (by decide) rfl) rfl rfl rfl (call_any (A := _) wS0 none none 0 0 wC1 none 0 [] wOf 7 (fun W M9 => ⟨Rd.nil _ _ _ _, Rd.nil _ _ _ _⟩) M (by decide) (fun o ho => absurd ho (by simp)) bs_nil) ?_
  rintro _ w6 hst
  obtain ⟨rl, ro, rm, ra, rs, rc, re, rfl, M1⟩ := hst.known (fun h => h ⟨wMay0, by decide, by decide⟩) (s1 := wS1) (t1 := wT1) (fun s t h => by obtain ⟨-, -, -, D', hD, rfl, rfl⟩ := h; rw [wk1R hD]; exact ⟨rfl, rfl⟩)
  refine ⟨_, rfl, ?_⟩; clear S M a; intro a S; have M := M1; clear M1
  refine st_go [1, 1, 1, 1] S rfl (by kernel_rfl) ?_; clear S a; intro a S
  refine st_alloc S M rfl rfl #[.slice none 0 0, .slice none 0 0, .slice none 0 0, .slice none 0 0, .slice none 0 0] (by kernel_rfl) ?_; clear S M a; intro a w7 bA S M hB
  refine st_store (sz := 4) (us := [_, _, _, _]) S M 9 rfl (by kernel_rfl) rfl rfl rfl rfl rfl rfl (by first | decide | (simp; done) | (simp; omega)) ?_; clear M; intro w8 M
  simp only [putL, List.set_cons_zero, List.set_cons_succ, Nat.reduceAdd] at M
  refine st_store (sz := 5) (us := [_, _, _, _, _]) S M 0 rfl (by kernel_rfl) rfl rfl rfl rfl rfl rfl (by first | decide | (simp; done) | (simp; omega)) ?_; clear M; intro w9 M
  simp only [putL, List.set_cons_zero, List.set_cons_succ, Nat.reduceAdd] at M
  refine st_go [1] S rfl (by kernel_rfl) ?_; clear S a; intro a S
  refine nxA ?_
  refine st_y S rfl rfl rfl (y_loadAgg (cs := [_, _, _, _]) S (by kernel_rfl) rfl rfl (M.cellsAt (k := 4) 9 rfl rfl)) ?_; clear S a; intro a S
  refine st_y S rfl rfl rfl (y_build (ps := [(0, (Operand.const (Value.int IntKind.i8 1))), (1, (Operand.const (Value.int IntKind.i64 3))), (2, (Operand.const (Value.int IntKind.i64 1))), (3, (Operand.const (Value.int IntKind.i64 5)))]) (pl := [(0, 1), (1, 1), (2, 1), (3, 1), (4, 1), (5, 1)]) (z := [.int .i8 0, .int .i64 0, .int .i64 0, .int .i64 0, .slice none 0 0, .int .i64 0]) (cs := [_, _, _, _, _, _]) S (by kernel_rfl) rfl (rfl)) ?_; clear S a; intro a S
  refine st_y S rfl rfl rfl (y_loadAgg (cs := [_, _, _, _, _, _, _, _]) S (by kernel_rfl) rfl rfl (M.cellsAt (k := 8) 8 rfl rfl)) ?_; clear S a; intro a S
  refine st_call (xs := [(Operand.tmp 29), (Operand.tmp 30), (Operand.tmp 31), (Operand.const (Value.int IntKind.i64 0))]) S (enters_of Try.func9 (by decide) rfl) rfl rfl rfl (call_any (A := _) wS1 rl.a ro.a rl.c ro.c wC2 none 0 [] wOf 0 (fun W M9 => ⟨M9.readAll 1 rfl (by unfold maxLen; decide), M9.readAll 2 rfl (by unfold maxLen; decide)⟩) M (by decide) wI1.ok.well.shok bs_nil) ?_
  rintro _ w10 hst
  obtain ⟨rl2, ro2, rm2, ra2, rs2, rc2, re2, rfl, M1⟩ := hst.known (fun h => h ⟨wMay1, by decide, by decide⟩) (s1 := wS2) (t1 := wT2) (fun s t h => by obtain ⟨-, -, -, D', hD, rfl, rfl⟩ := h; rw [wk2R hD]; exact ⟨rfl, rfl⟩)
  refine ⟨_, rfl, ?_⟩; clear S M a; intro a S; have M := M1; clear M1
  refine st_go [1, 1, 1, 1] S rfl (by kernel_rfl) ?_; clear S a; intro a S
  refine st_alloc S M rfl rfl #[.slice none 0 0, .slice none 0 0, .slice none 0 0, .slice none 0 0, .slice none 0 0] (by kernel_rfl) ?_; clear S M a; intro a w11 bB S M hB
  refine st_store (sz := 4) (us := [_, _, _, _]) S M 17 rfl (by kernel_rfl) rfl rfl rfl rfl rfl rfl (by first | decide | (simp; done) | (simp; omega)) ?_; clear M; intro w12 M
  simp only [putL, List.set_cons_zero, List.set_cons_succ, Nat.reduceAdd] at M
  refine st_store (sz := 5) (us := [_, _, _, _, _]) S M 0 rfl (by kernel_rfl) rfl rfl rfl rfl rfl rfl (by first | decide | (simp; done) | (simp; omega)) ?_; clear M; intro w13 M
  simp only [putL, List.set_cons_zero, List.set_cons_succ, Nat.reduceAdd] at M
  refine st_go [1] S rfl (by kernel_rfl) ?_; clear S a; intro a S
  replace S := S.sub [(0, _), (1, _), (2, _), (3, _), (4, _), (5, _), (6, _), (7, _)] rfl
  refine nxC ?_
  refine wp_seq ?_
  refine nxD ?_
  refine st_go [1, 1, 1] S rfl (by kernel_rfl) ?_; clear S a; intro a S
  refine st_if (t := 38) S rfl ?_ ?_
  · clear S; intro h38 S
    exfalso; revert h38; decide
  clear S; intro h38 S
  refine st_go [1, 1, 1, 1] S rfl (by kernel_rfl) ?_; clear S a; intro a S
  refine st_if (t := 42) S rfl ?_ ?_
  · clear S; intro h42 S
    exfalso; revert h42; decide
  clear S; intro h42 S
  refine st_go [1, 1, 1, 1] S rfl (by kernel_rfl) ?_; clear S a; intro a S
  refine st_if (t := 46) S rfl ?_ ?_
  · clear S; intro h46 S
    exfalso; revert h46; decide
  clear S; intro h46 S
  refine st_run [2, 9] S M rfl (by kernel_rfl) ?_; clear S a; intro a S
  refine st_y S rfl rfl rfl (y_lenS (E := 69) S rfl (by kernel_rfl)) ?_; clear S a; intro a S
  refine st_go [1, 1, 1] S rfl (by kernel_rfl) ?_; clear S a; intro a S
  refine st_if (t := 52) S rfl ?_ ?_
  · clear S; intro h52 S
    exfalso; revert h52; decide
  clear S; intro h52 S
  refine st_run [2, 9] S M rfl (by kernel_rfl) ?_; clear S a; intro a S
  refine st_y S rfl rfl rfl (y_indexR (e := 69) (sz := 13) S (by kernel_rfl) rfl (M.readAll 12 rfl (by unfold maxLen; decide)) rfl (by first | omega | (simp; done) | (simp; omega))) ?_; clear S a; intro a S
  refine st_go [12] S rfl (by kernel_rfl) ?_; clear S a; intro a S
  refine st_y S rfl rfl rfl (y_load S (by kernel_rfl) rfl ((M.readAll 12 rfl (by unfold maxLen; decide)).at_.row (i := 0) (fm_get (x := ⟨3, 1, 0, zV8, 7, 0⟩) len_ans rfl) rfl 11 (by decide))) ?_; clear S a; intro a S
  refine st_go [1, 1, 1] S rfl (by kernel_rfl) ?_; clear S a; intro a S
  refine st_if (t := 60) S rfl ?_ ?_
  · clear S; intro h60 S
    exfalso; revert h60; decide
  clear S; intro h60 S
  refine st_run [1, 1] S M rfl (by kernel_rfl) ?_; clear S a; intro a S
  refine st_y S rfl rfl rfl (y_lenS (E := 45) S rfl (by kernel_rfl)) ?_; clear S a; intro a S
  refine st_go [1, 1] S rfl (by kernel_rfl) ?_; clear S a; intro a S
  replace S := S.sub [(0, _), (1, _), (2, _), (3, _), (4, _), (5, _), (6, _), (7, _), (65, _)] rfl
  refine nxC ?_
  refine st_if (t := 65) S rfl ?_ ?_
  · clear S; intro h65 S
    exfalso; revert h65; decide
  clear S; intro h65 S
  refine st_condF S rfl ?_
  refine wp_skip ?_
  refine nxE ?_
  refine st_run [1, 1] S M rfl (by kernel_rfl) ?_; clear S a; intro a S
  refine st_y S rfl rfl rfl (y_indexR (e := 45) (sz := 24) S (by kernel_rfl) rfl (M.readAll 3 rfl (by unfold maxLen; decide)) rfl (by first | omega | (simp; done) | (simp; omega))) ?_; clear S a; intro a S
  refine st_y S rfl rfl rfl (y_loadAgg S (by kernel_rfl) rfl rfl ((M.readAll 3 rfl (by unfold maxLen; decide)).at_.row (i := 0) (fm_get (x := wM) len_msg rfl) rfl)) ?_; clear S a; intro a S
  refine st_alloc S M rfl rfl #[.int .i8 0, .int .i64 0, .int .i64 0, .int .i64 0, .int .i64 0, .int .i64 0, .int .i64 0, .int .i64 0, .int .i64 0, .int .i8 0, .int .i64 0, .int .u8 0, .int .u8 0, .int .u8 0, .int .u8 0, .int .u8 0, .int .u8 0, .int .u8 0, .int .u8 0, .int .i64 0, .bool false, .int .i64 0, .int .i64 0, .slice none 0 0] (by kernel_rfl) ?_; clear S M a; intro a w14 bM S M hB
  refine st_store (sz := 24) (us := [_, _, _, _, _, _, _, _, _, _, _, _, _, _, _, _, _, _, _, _, _, _, _, _]) S M 0 rfl (by kernel_rfl) rfl rfl rfl rfl rfl rfl (by first | decide | (simp; done) | (simp; omega)) ?_; clear M; intro w15 M
  simp only [putL, List.set_cons_zero, List.set_cons_succ, Nat.reduceAdd] at M
  refine nxA ?_
  refine st_go [6] S rfl (by kernel_rfl) ?_; clear S a; intro a S
  refine st_y S rfl rfl rfl (y_loadAgg (cs := [_, _, _]) S (by kernel_rfl) rfl rfl (M.cellsAt (k := 3) 0 rfl rfl)) ?_; clear S a; intro a S
  refine st_y S rfl rfl rfl (y_buildA (ps := [(0, (Operand.const (Value.int IntKind.u8 4)))]) (sz := 1) (z := [.int .u8 0, .int .u8 0, .int .u8 0, .int .u8 0, .int .u8 0, .int .u8 0, .int .u8 0, .int .u8 0]) (cs := [_, _, _, _, _, _, _, _]) S (by kernel_rfl) rfl rfl) ?_; clear S a; intro a S
  refine st_y S rfl rfl rfl (y_build (ps := [(0, (Operand.const (Value.int IntKind.i8 3))), (1, (Operand.const (Value.int IntKind.i64 2))), (3, (Operand.const (Value.int IntKind.i64 1))), (4, (Operand.const (Value.int IntKind.i64 1))), (5, (Operand.tmp 71)), (6, (Operand.const (Value.int IntKind.i64 1))), (9, (Operand.tmp 72))]) (pl := [(0, 1), (1, 1), (2, 1), (3, 1), (4, 1), (5, 3), (8, 1), (9, 1), (10, 1), (11, 8), (19, 1), (20, 1), (21, 1), (22, 1), (23, 1)]) (z := [.int .i8 0, .int .i64 0, .int .i64 0, .int .i64 0, .int .i64 0, .int .i64 0, .int .i64 0, .int .i64 0, .int .i64 0, .int .i8 0, .int .i64 0, .int .u8 0, .int .u8 0, .int .u8 0, .int .u8 0, .int .u8 0, .int .u8 0, .int .u8 0, .int .u8 0, .int .i64 0, .bool false, .int .i64 0, .int .i64 0, .slice none 0 0]) (cs := [_, _, _, _, _, _, _, _, _, _, _, _, _, _, _, _, _, _, _, _, _, _, _, _]) S (by kernel_rfl) rfl (rfl)) ?_; clear S a; intro a S
  refine st_alloc S M rfl rfl #[.int .i8 0, .int .i64 0, .int .i64 0, .int .i64 0, .int .i64 0, .int .i64 0, .int .i64 0, .int .i64 0, .int .i64 0, .int .i8 0, .int .i64 0, .int .u8 0, .int .u8 0, .int .u8 0, .int .u8 0, .int .u8 0, .int .u8 0, .int .u8 0, .int .u8 0, .int .i64 0, .bool false, .int .i64 0, .int .i64 0, .slice none 0 0] (by kernel_rfl) ?_; clear S M a; intro a w16 bD S M hB
  refine st_store (sz := 24) (us := [_, _, _, _, _, _, _, _, _, _, _, _, _, _, _, _, _, _, _, _, _, _, _, _]) S M 0 rfl (by kernel_rfl) rfl rfl rfl rfl rfl rfl (by first | decide | (simp; done) | (simp; omega)) ?_; clear M; intro w17 M
  simp only [putL, List.set_cons_zero, List.set_cons_succ, Nat.reduceAdd] at M
  refine nxA ?_
  refine st_y S rfl rfl rfl (y_loadAgg (cs := [_, _, _, _]) S (by kernel_rfl) rfl rfl (M.cellsAt (k := 4) 19 rfl rfl)) ?_; clear S a; intro a S
  refine st_y S rfl rfl rfl (y_loadAgg (cs := [_, _, _, _, _, _, _, _, _, _, _, _, _, _, _, _, _, _, _, _, _, _, _, _]) S (by kernel_rfl) rfl rfl (M.cellsAt (k := 24) 0 rfl rfl)) ?_; clear S a; intro a S
  refine st_y S rfl rfl rfl (y_loadAgg (cs := [_, _, _, _, _, _, _, _]) S (by kernel_rfl) rfl rfl (M.cellsAt (k := 8) 18 rfl rfl)) ?_; clear S a; intro a S
  refine st_call (xs := [(Operand.tmp 75), (Operand.tmp 76), (Operand.tmp 77)]) S (enters_of Try.func10 (by decide) rfl) rfl rfl rfl (hear_any (A := _) wS2 rl2.a ro2.a rl2.c ro2.c wD none 0 [] wOf (fun W M9 => ⟨M9.readAll 3 rfl (by unfold maxLen; decide), M9.readAll 4 rfl (by unfold maxLen; decide)⟩) M (by decide) wSh2 (fun W _ => Rd.nil _ _ _ _)) ?_
  rintro _ w18 hst
  obtain ⟨rl3, ro3, rm3, ra3, rs3, rc3, re3, rfl, M1⟩ := hst.known (fun h => h ⟨wMay2, wDmay⟩) (s1 := wS3) (t1 := wT3) (fun s t h => wk3R h.2.2)
  refine ⟨_, rfl, ?_⟩; clear S M a; intro a S; have M := M1; clear M1
  refine st_go [1, 1, 1, 1] S rfl (by kernel_rfl) ?_; clear S a; intro a S
  refine st_alloc S M rfl rfl #[.slice none 0 0, .slice none 0 0, .slice none 0 0, .slice none 0 0, .slice none 0 0] (by kernel_rfl) ?_; clear S M a; intro a w19 bC S M hB
  refine st_store (sz := 4) (us := [_, _, _, _]) S M 27 rfl (by kernel_rfl) rfl rfl rfl rfl rfl rfl (by first | decide | (simp; done) | (simp; omega)) ?_; clear M; intro w20 M
  simp only [putL, List.set_cons_zero, List.set_cons_succ, Nat.reduceAdd] at M
  refine st_store (sz := 5) (us := [_, _, _, _, _]) S M 0 rfl (by kernel_rfl) rfl rfl rfl rfl rfl rfl (by first | decide | (simp; done) | (simp; omega)) ?_; clear M; intro w21 M
  simp only [putL, List.set_cons_zero, List.set_cons_succ, Nat.reduceAdd] at M
  refine st_go [1] S rfl (by kernel_rfl) ?_; clear S a; intro a S
  replace S := S.sub [(0, _), (1, _), (2, _), (3, _), (4, _), (5, _), (6, _), (7, _), (65, _), (8, _), (9, _), (10, _), (11, _)] rfl
  refine nxA ?_
  refine st_y S rfl rfl rfl (y_loadAgg (cs := [_, _, _, _]) S (by kernel_rfl) rfl rfl (M.cellsAt (k := 4) 27 rfl rfl)) ?_; clear S a; intro a S
  refine st_y S rfl rfl rfl (y_build (ps := [(0, (Operand.const (Value.int IntKind.i8 3))), (1, (Operand.const (Value.int IntKind.i64 3))), (2, (Operand.const (Value.int IntKind.i64 1)))]) (pl := [(0, 1), (1, 1), (2, 1), (3, 1), (4, 1), (5, 1)]) (z := [.int .i8 0, .int .i64 0, .int .i64 0, .int .i64 0, .slice none 0 0, .int .i64 0]) (cs := [_, _, _, _, _, _]) S (by kernel_rfl) rfl (rfl)) ?_; clear S a; intro a S
  refine st_y S rfl rfl rfl (y_loadAgg (cs := [_, _, _, _, _, _, _, _]) S (by kernel_rfl) rfl rfl (M.cellsAt (k := 8) 26 rfl rfl)) ?_; clear S a; intro a S
  refine st_call (xs := [(Operand.tmp 83), (Operand.tmp 84), (Operand.tmp 85), (Operand.const (Value.int IntKind.i64 0))]) S (enters_of Try.func9 (by decide) rfl) rfl rfl rfl (call_any (A := _) wS3 rl3.a ro3.a rl3.c ro3.c wC3 none 0 [] wOf 0 (fun W M9 => ⟨M9.readAll 1 rfl (by unfold maxLen; decide), M9.readAll 2 rfl (by unfold maxLen; decide)⟩) M (by decide) wSh3 bs_nil) ?_
  rintro _ w22 hst
  obtain ⟨rl4, ro4, rm4, ra4, rs4, rc4, re4, rfl, M1⟩ := hst.known (fun h => h ⟨wMay3, by decide, by decide⟩) (s1 := wS4) (t1 := wT4) (fun s t h => by obtain ⟨-, -, -, D', hD, rfl, rfl⟩ := h; rw [wk4R hD]; exact ⟨rfl, rfl⟩)
  refine ⟨_, rfl, ?_⟩; clear S M a; intro a S; have M := M1; clear M1
  refine st_go [1, 1, 1, 1] S rfl (by kernel_rfl) ?_; clear S a; intro a S
  refine st_alloc S M rfl rfl #[.slice none 0 0, .int .i64 0, .int .i64 0, .slice none 0 0] (by kernel_rfl) ?_; clear S M a; intro a w23 bX S M hB
  refine st_alloc S M rfl rfl #[.slice none 0 0, .slice none 0 0, .slice none 0 0, .slice none 0 0, .slice none 0 0] (by kernel_rfl) ?_; clear S M a; intro a w24 bY S M hB
  refine st_store (sz := 4) (us := [_, _, _, _]) S M 1 rfl (by kernel_rfl) rfl rfl rfl rfl rfl rfl (by first | decide | (simp; done) | (simp; omega)) ?_; clear M; intro w25 M
  simp only [putL, List.set_cons_zero, List.set_cons_succ, Nat.reduceAdd] at M
  refine st_store (sz := 5) (us := [_, _, _, _, _]) S M 0 rfl (by kernel_rfl) rfl rfl rfl rfl rfl rfl (by first | decide | (simp; done) | (simp; omega)) ?_; clear M; intro w26 M
  simp only [putL, List.set_cons_zero, List.set_cons_succ, Nat.reduceAdd] at M
  refine st_go [1] S rfl (by kernel_rfl) ?_; clear S a; intro a S
  refine nxA ?_
  refine st_run [3, 19, 1, 1] S M rfl (by kernel_rfl) ?_; clear S a; intro a S
  refine st_fi (t := 93) S rfl ?_ ?_
  · clear S; intro h93 S
    exfalso; revert h93; decide
  clear S; intro h93 S
  refine st_run [9, 19, 1, 1, 1] S M rfl (by kernel_rfl) ?_; clear S a; intro a S
  refine st_fi (t := 98) S rfl ?_ ?_
  · clear S; intro h98 S
    exfalso; revert h98; decide
  clear S; intro h98 S
  refine st_go [1, 1, 1, 1] S rfl (by kernel_rfl) ?_; clear S a; intro a S
  refine st_fi (t := 102) S rfl ?_ ?_
  · clear S; intro h102 S
    exfalso; revert h102; decide
  clear S; intro h102 S
  refine st_go [1, 1, 1, 1] S rfl (by kernel_rfl) ?_; clear S a; intro a S
  refine st_fi (t := 106) S rfl ?_ ?_
  · clear S; intro h106 S
    exfalso; revert h106; decide
  clear S; intro h106 S
  refine st_run [2, 10] S M rfl (by kernel_rfl) ?_; clear S a; intro a S
  refine st_y S rfl rfl rfl (y_lenS (E := 69) S rfl (by kernel_rfl)) ?_; clear S a; intro a S
  refine st_go [1, 1, 1] S rfl (by kernel_rfl) ?_; clear S a; intro a S
  refine st_fi (t := 112) S rfl ?_ ?_
  · clear S; intro h112 S
    exfalso; revert h112; decide
  clear S; intro h112 S
  refine st_run [2, 10] S M rfl (by kernel_rfl) ?_; clear S a; intro a S
  refine st_y S rfl rfl rfl (y_indexR (e := 69) (sz := 13) S (by kernel_rfl) rfl (M.readAll 13 rfl (by unfold maxLen; decide)) rfl (by first | omega | (simp; done) | (simp; omega))) ?_; clear S a; intro a S
  refine st_go [4] S rfl (by kernel_rfl) ?_; clear S a; intro a S
  refine st_y S rfl rfl rfl (y_indexA (m := 8) (sz := 1) S (by kernel_rfl) rfl rfl (by first | omega | (simp; done) | (simp; omega))) ?_; clear S a; intro a S
  refine st_y S rfl rfl rfl (y_load S (by kernel_rfl) rfl ((M.readAll 13 rfl (by unfold maxLen; decide)).at_.row (i := 0) (fm_get (x := ⟨3, 1, 0, wV, 7, 1⟩) len_ans rfl) rfl 3 (by decide))) ?_; clear S a; intro a S
  refine st_go [1, 1, 1] S rfl (by kernel_rfl) ?_; clear S a; intro a S
  refine st_fi (t := 121) S rfl ?_ ?_
  · clear S; intro h121 S
    exfalso; revert h121; decide
  clear S; intro h121 S
  refine st_run [1, 1] S M rfl (by kernel_rfl) ?_; clear S a; intro a S
  refine st_y S rfl rfl rfl (y_lenS (E := 45) S rfl (by kernel_rfl)) ?_; clear S a; intro a S
  refine st_go [1, 1, 1] S rfl (by kernel_rfl) ?_; clear S a; intro a S
  refine st_fi (t := 127) S rfl ?_ ?_
  · clear S; intro h127 S
    exfalso; revert h127; decide
  clear S; intro h127 S
  refine st_run [1, 1] S M rfl (by kernel_rfl) ?_; clear S a; intro a S
  refine st_y S rfl rfl rfl (y_indexR (e := 45) (sz := 24) S (by kernel_rfl) rfl (M.readAll 4 rfl (by unfold maxLen; decide)) rfl (by first | omega | (simp; done) | (simp; omega))) ?_; clear S a; intro a S
  refine st_go [1] S rfl (by kernel_rfl) ?_; clear S a; intro a S
  refine st_y S rfl rfl rfl (y_load S (by kernel_rfl) rfl ((M.readAll 4 rfl (by unfold maxLen; decide)).at_.row (i := 0) (fm_get (x := ⟨9, 0, 2, 0, 0, wN, 0, 0, 0, zV8, 0, false, 0, 0⟩) len_msg rfl) rfl 0 (by decide))) ?_; clear S a; intro a S
  refine st_go [1, 1, 1] S rfl (by kernel_rfl) ?_; clear S a; intro a S
  replace S := S.sub [(1, _), (2, _), (3, _), (4, _), (5, _), (6, _), (7, _), (65, _), (8, _), (9, _), (10, _), (11, _), (13, _), (14, _), (0, _)] rfl
  refine nxC ?_
  refine wp_ret ?_
  refine end_one S rfl (res_tmp rfl) ?_
  exact ⟨rfl, M.below⟩
end Go.Proofs.Ytniijiipkfhjgaa

namespace Go.Proofs.Ytniijiipkfhjgaa
open Go.RowKit Go.Sort
theorem equalNmK (d : Nat) (p q : Nm) (w : World) : (Op.equalIn (d + 2) 40 (.agg (nmL p).toArray) (.agg (nmL q).toArray)).run Try.prog w = .ok (decide (p = q)) w := by
  have e : decide (p = q) = p.eqb q := by
    rw [Bool.eq_iff_iff, decide_eq_true_eq, Nm.eqb_iff]
  rw [e]; exact equalNm d p q w
abbrev encNm (p : Nm) : Value := .agg (nmL p).toArray
theorem checkNm (b : Bool) (p : Nm) (w : World) : (Instr.checkKey b 10000 40 (encNm p)).run Try.prog w = .ok () w := by
  kernel_rfl
theorem keyNm : KeyT Try.prog 40 encNm := by
  refine ⟨fun k l w h => ?_, checkNm, fun p => by rw [show (10000 : Nat) = 9999 + 1 from rfl]; simp [Instr.sameBits]⟩
  have hask : ∀ (l : Mes Nm) (i : Nat), (∀ p ∈ l, p.2.key = encNm p.1) → (Instr.findAsking 40 (encNm k) (l.map (·.2)) i).run Try.prog w = .ok (posK k l i) w := by
    intro l
    induction l with
    | nil => intro i _; rfl
    | cons p l ih =>
      intro i h
      have e : (Op.equal 40 (encNm k) (encNm p.1)).run Try.prog w = .ok (decide (k = p.1)) w := equalNmK 9998 k p.1 w
      rw [List.map_cons, Instr.findAsking, h p (List.mem_cons_self ..), Sem.run_bind, e]
      simp only [Result.andThen, posK]
      by_cases hk : k = p.1
      · rw [decide_eq_true hk, if_pos hk.symm]; rfl
      · rw [decide_eq_false hk, if_neg (show ¬ p.1 = k from fun e => hk e.symm)]
        exact ih (i + 1) fun q hq => h q (List.mem_cons_of_mem _ hq)
  simp only [Instr.findKey, Sem.run_bind, run_underlying Try.underlying40, Result.andThen]
  cases l with
  | nil => rfl
  | cons p l =>
    have e : ∀ fs, Instr.findNow (.struct fs) (encNm k) ((p :: l).map (·.2)) 0 = none := fun fs => by
      rw [List.map_cons, Instr.findNow]; rfl
    rw [e]
    exact hask (p :: l) 0 h
abbrev enc2 (p : Int × Int) : Value := .agg #[.int .i64 p.1, .int .i64 p.2]
end Go.Proofs.Ytniijiipkfhjgaa

namespace Go.Proofs.Ytniijiipkfhjgaa
open Go.RowKit Go.Sort
def CV2 (ml : Mes (Int × Int)) (g : Int → Int → Int) : Prop := ∀ a b, (getM ml (a, b)).getD (.int .i64 0) = .int .i64 (g a b)
theorem CV2.put {ml : Mes (Int × Int)} {g : Int → Int → Int} {c : Nat} (h : CV2 ml g) (a b v : Int) : CV2 (putM enc2 ml c (a, b) (.int .i64 v)).1 (put2 g a b v) := fun x y => by
  rw [get_put]
  unfold put2
  by_cases e : x = a ∧ y = b
  · rw [if_pos e, if_pos (by rw [e.1, e.2])]; rfl
  · rw [if_neg e, if_neg (fun e2 => e ⟨congrArg Prod.fst e2, congrArg Prod.snd e2⟩)]; exact h x y
theorem CV2.nil : CV2 [] (fun _ _ => 0) := fun _ _ => rfl
/-- these are the map's keys -/
def CVB (ml : Mes Nm) (B : List Nm) : Prop := ∀ n, n ∈ ml.map (·.1) ↔ n ∈ B
theorem keys_put {κ : Type} [DecidableEq κ] {enc : κ → Value} (l : Mes κ) (c : Nat) (k n : κ) (v : Value) : n ∈ (putM enc l c k v).1.map Prod.fst ↔ n ∈ l.map Prod.fst ∨ n = k := by
  unfold putM
  split
  · rename_i h
    have : (setM l k v).map Prod.fst = l.map Prod.fst := by
      unfold setM
      rw [List.map_map]
      refine List.map_congr_left fun p _ => ?_
      show (if p.1 = k then (p.1, { p.2 with val := v }) else p).1 = p.1
      split <;> rfl
    show n ∈ (setM l k v).map Prod.fst ↔ _
    rw [this]
    exact ⟨.inl, fun e => e.elim id fun e => by rw [e]; exact h⟩
  · show n ∈ (l ++ [_]).map Prod.fst ↔ _
    simp
theorem CVB.put {ml : Mes Nm} {B : List Nm} {c : Nat} (h : CVB ml B) (k : Nm) (v : Value) : CVB (putM encNm ml c k v).1 (B ++ [k]) := fun n => by
  rw [keys_put, h n]; simp
theorem CVB.nil : CVB [] [] := fun _ => Iff.rfl
/-- these names are told 1, the others 0 -/
def CVO (ml : Mes Nm) (O : List Nm) : Prop := ∀ n, (getM ml n).getD (.int .i64 0) = .int .i64 (if n ∈ O then 1 else 0)
theorem CVO.put {ml : Mes Nm} {O : List Nm} {c : Nat} (h : CVO ml O) (k : Nm) : CVO (putM encNm ml c k (.int .i64 1)).1 (O ++ [k]) := fun n => by
  rw [get_put]
  by_cases e : n = k
  · rw [if_pos e, if_pos (by rw [e]; simp)]; rfl
  · rw [if_neg e, h n]
    have : n ∈ O ++ [k] ↔ n ∈ O := by simp [e]
    simp only [this]
theorem CVO.nil : CVO [] [] := fun _ => rfl
theorem NumR.weak {s s' : Ses} {t' : Tol} {g T : Int → Int → Int} {c : Cal} {p q : Prop} (h : NumR s s' t' g T c p) (hq : q → p) : NumR s s' t' g T c q := by
  obtain ⟨h1, h2⟩ := h
  refine ⟨fun k m hm hk => ?_, h2⟩
  obtain ⟨a, b, c, d, e⟩ := h1 k m hm hk
  exact ⟨a, b, c, fun x => d (hq x), e⟩
/-! how long a session is -/
def Ses.size (s : Ses) : Nat := s.over.length + s.l.length
theorem size_set (s : Ses) (i : Nat) (o : Ope) : Ses.size { s with l := s.l.set i o } = s.size := by
  show s.over.length + (s.l.set i o).length = _
  rw [List.length_set]; rfl
theorem size_end (s : Ses) {i : Nat} {o : Ope} (ho : s.l[i]? = some o) (er : Int) : (s.end_ i o er).size = s.size := by
  have := (List.getElem?_eq_some_iff.1 ho).1
  show (s.over ++ [_]).length + (s.l.eraseIdx i).length = s.over.length + s.l.length
  rw [List.length_append, List.length_eraseIdx, if_pos this]; simp; omega
theorem size_touch (D : Dsk) (i : Nat) (o : Ope) (c : Cal) (bs : List UInt8) : (D.touch i o c bs).s.size = D.s.size := by
  unfold Dsk.touch
  split
  · rfl
  · split
    · rfl
    · split
      · exact size_set _ _ _
      · rfl
theorem size_commit (D : Dsk) {i : Nat} {o : Ope} (ho : D.s.l[i]? = some o) : (D.commit i o).s.size = D.s.size := by
  unfold Dsk.commit Dsk.commit0
  split
  · exact size_end _ ho _
  · split
    · exact size_set _ _ _
    · exact size_set _ _ _
theorem size_did (D : Dsk) {i : Nat} {o : Ope} (ho : D.s.l[i]? = some o) (m : Msg) : (D.did i o m).s.size = D.s.size := by
  unfold Dsk.did
  split
  · exact size_set _ _ _
  · split
    · exact size_set _ _ _
    · exact size_end _ ho _
theorem size_call {s : Ses} {of : Of8} {c : Cal} {bs : List UInt8} {st : Int} {D' : Dsk} (hR : Dsk.DoesR ⟨s, Tol.none, of⟩ c bs st D') : D'.s.size ≤ s.size + 1 := by
  rcases hR with ⟨h0, rfl⟩ | ⟨h0, ⟨⟨er, rfl⟩, -⟩ | ⟨i, o, ho, e1, e2, hph, hD⟩⟩
  · unfold Dsk.begin
    split
    · show s.over.length + (s.l ++ [_]).length ≤ s.over.length + s.l.length + 1
      rw [List.length_append]; simp; omega
    · exact Nat.le_succ _
  · exact Nat.le_succ _
  · rcases hD with ⟨-, rfl⟩ | ⟨h4, rfl⟩ | ⟨-, rfl⟩
    · rw [size_commit _ ho]; exact Nat.le_succ _
    · show (Ses.end_ s i o 4).size ≤ _; rw [size_end _ ho]; exact Nat.le_succ _
    · rw [size_touch]; exact Nat.le_succ _
theorem size_hear {s s' : Ses} {of : Of8} {m : Msg} {t' : Tol} (hR : HearR s of m s' t') : s'.size = s.size := by
  rcases hR with ⟨rfl, rfl, -⟩ | ⟨i, o, D', ho, -, rfl, rfl, hD⟩
  · rfl
  · rcases hD with ⟨-, h1, -, -, rfl⟩ | ⟨-, h1, -, rfl⟩
    · exact size_did _ ho m
    · exact size_end _ ho _
theorem size_endR {s s' : Ses} {n : Nm} {er : Int} {t' : Tol} (hR : EndR s n er s' t') : s'.size = s.size := by
  obtain ⟨i, o, D', ho, -, hph, rfl, rfl, hD⟩ := hR
  rcases hD with ⟨-, rfl⟩ | ⟨-, rfl⟩ | ⟨-, rfl⟩
  · exact size_end _ ho _
  · exact size_end _ ho _
  · exact size_end _ ho _
theorem size_anew {s : Ses} {sh i : Nat} {D : Dsk} (hA : AnewTo s sh i D) : D.s.size = s.size := by
  induction hA with
  | start => rfl
  | pass _ _ _ ih => exact ih
  | @lose i D o hA ho h1 h2 ih =>
    unfold Dsk.lost
    split
    · exact (size_end D.s ho 121).trans ih
    · exact (size_end D.s ho 122).trans ih
/-- what is told is short -/
def Tol.short (t : Tol) : Prop := t.mail.length ≤ 100 ∧ t.ans.length ≤ 100 ∧ t.seen.length ≤ 100
theorem short_refuse {D : Dsk} {o : Ope} {but : Int} {i : Nat} {o' : Ope} {kd er an : Int} {told : Bool} (h : D.t.mail.length ≤ 50 ∧ D.t.ans.length ≤ 50 ∧ D.t.seen.length ≤ 50) : ((D.mails (refuseP o but 4)).ended i o' kd er an told).t.short := by
  have hp := refuseP_len o but 4
  refine ⟨?_, ?_, ?_⟩
  · show (D.t.mail ++ refuseP o but 4).length ≤ 100; rw [List.length_append]; omega
  · show (D.t.ans ++ (if told = true then [_] else [])).length ≤ 100; rw [List.length_append]; split <;> simp <;> omega
  · show (D.t.seen ++ [_]).length ≤ 100; rw [List.length_append]; simp; omega
theorem short_ended {D : Dsk} {i : Nat} {o' : Ope} {kd er an : Int} {told : Bool} (h : D.t.mail.length ≤ 50 ∧ D.t.ans.length ≤ 50 ∧ D.t.seen.length ≤ 50) : (D.ended i o' kd er an told).t.short := by
  refine ⟨?_, ?_, ?_⟩
  · show D.t.mail.length ≤ 100; omega
  · show (D.t.ans ++ (if told = true then [_] else [])).length ≤ 100; rw [List.length_append]; split <;> simp <;> omega
  · show (D.t.seen ++ [_]).length ≤ 100; rw [List.length_append]; simp; omega
theorem short_none : Tol.none.mail.length ≤ 50 ∧ Tol.none.ans.length ≤ 50 ∧ Tol.none.seen.length ≤ 50 := ⟨Nat.zero_le _, Nat.zero_le _, Nat.zero_le _⟩
theorem short_call {s : Ses} {of : Of8} {c : Cal} {bs : List UInt8} {st : Int} {D' : Dsk} (hR : Dsk.DoesR ⟨s, Tol.none, of⟩ c bs st D') : D'.t.short := by
  have href : ∀ (c' : Cal) er, (Dsk.refused ⟨s, Tol.none, of⟩ c' er).t.short := fun c' er => ⟨Nat.zero_le _, by show 1 ≤ 100; omega, Nat.zero_le _⟩
  rcases hR with ⟨h0, rfl⟩ | ⟨h0, ⟨⟨er, rfl⟩, -⟩ | ⟨i, o, ho, e1, e2, hph, hD⟩⟩
  · unfold Dsk.begin
    split
    · exact ⟨Nat.zero_le _, by show 1 ≤ 100; omega, by show 1 ≤ 100; omega⟩
    · exact href _ _
  · exact href _ _
  · rcases hD with ⟨-, rfl⟩ | ⟨h4, rfl⟩ | ⟨-, rfl⟩
    · unfold Dsk.commit Dsk.commit0
      split
      · exact short_ended ⟨Nat.zero_le _, Nat.zero_le _, by show 2 ≤ 50; omega⟩
      · split
        · exact ⟨by show 1 ≤ 100; omega, Nat.zero_le _, by show 1 ≤ 100; omega⟩
        · exact ⟨Nat.zero_le _, Nat.zero_le _, by show 1 ≤ 100; omega⟩
    · exact short_refuse short_none
    · unfold Dsk.touch
      split
      · exact href _ _
      · split
        · exact href _ _
        · split
          · exact ⟨by show 1 ≤ 100; omega, Nat.zero_le _, Nat.zero_le _⟩
          · exact href _ _
theorem short_hear {s s' : Ses} {of : Of8} {m : Msg} {t' : Tol} (hR : HearR s of m s' t') : t'.short := by
  rcases hR with ⟨rfl, rfl, -⟩ | ⟨i, o, D', ho, -, rfl, rfl, hD⟩
  · exact ⟨Nat.zero_le _, Nat.zero_le _, Nat.zero_le _⟩
  · rcases hD with ⟨-, h1, -, -, rfl⟩ | ⟨-, h1, -, rfl⟩
    · unfold Dsk.did
      split
      · exact ⟨Nat.zero_le _, by show 1 ≤ 100; omega, by show 1 ≤ 100; omega⟩
      · split
        · exact ⟨by show 1 ≤ 100; omega, Nat.zero_le _, Nat.zero_le _⟩
        · exact short_refuse short_none
    · exact short_ended short_none
theorem short_endR {s s' : Ses} {n : Nm} {er : Int} {t' : Tol} (hR : EndR s n er s' t') : t'.short := by
  obtain ⟨i, o, D', ho, -, hph, rfl, rfl, hD⟩ := hR
  rcases hD with ⟨-, rfl⟩ | ⟨-, rfl⟩ | ⟨-, rfl⟩
  · exact short_ended short_none
  · exact short_refuse short_none
  · exact short_ended short_none
theorem short_tick {s : Ses} (h : s.l.length ≤ 8) : Tol.short { Tol.none with mail := tickP s.l } := ⟨by have := tickP_len s.l; show (tickP s.l).length ≤ 100; omega, Nat.zero_le _, Nat.zero_le _⟩
theorem short_anew {s : Ses} (hl : s.l.length ≤ 8) (hs : s.size ≤ 500) {sh i : Nat} {D : Dsk} (hA : AnewTo s sh i D) : D.t.short := by
  have : AnewB D := by
    induction hA with
    | start => exact ⟨by show 0 + 4 * s.l.length ≤ 32; omega, by unfold Ses.size at hs; show s.over.length + s.l.length ≤ 508; omega, by show 0 + s.l.length ≤ 8; omega, by show 0 + s.l.length ≤ 8; omega, Nat.le_refl _, Nat.le_refl _⟩
    | pass _ _ _ ih => exact ih
    | lose _ ho _ _ ih => exact ih.lost (List.getElem?_eq_some_iff.1 ho).1
  exact ⟨by have := this.mail; omega, by have := this.ans; omega, by have := this.seen; omega⟩
/-- what one act does, for the law of numbers -/
structure NumS (s s' : Ses) (t' : Tol) (g T : Int → Int → Int) (q : Act_) (u : Int → Int) : Prop where
  num : NumR s s' t' g T q.c (q.do_ = 3)
  si : ∃ f B O, SI s' f B O u
  size : s'.size ≤ s.size + 1
  short : t'.short
/-- a new stamp is new -/
def Fresh24 (s : Ses) (q : Act_) (u : Int → Int) : Prop := q.c.kind = 0 → q.c.stamp = 0 → (∀ o ∈ s.l, o.nm.stamp ≠ q.stamp) ∧ (∀ x ∈ s.over, x.stamp ≠ q.stamp) ∧ 1 ≤ u q.stamp
section
variable {s s' : Ses} {t' : Tol} {g T : Int → Int → Int} {u : Int → Int} {q : Act_} {f : Int → Int} {B O : List Nm}
theorem NumS.call (h : SI s f B O u) (hN : NI s g T) (of : Of8) (hu : Fresh24 s q u) (hd : q.do_ = 0)
    (hR : s.May ∧ (0 ≤ q.c.kind ∧ q.c.kind ≤ 4) ∧ (0 ≤ q.stamp ∧ q.stamp ≤ 1048576) ∧ ∃ D', Dsk.DoesR ⟨s, Tol.none, of⟩ q.c q.bs q.stamp D' ∧ s' = D'.s ∧ t' = D'.t) : NumS s s' t' g T q u := by
  obtain ⟨-, hk, hst, D', hD, rfl, rfl⟩ := hR
  have hDI := h.call of q.c q.bs hk hst (fun a b => hu a b) hD
  exact ⟨(hN.call (h of).ok of q.c q.bs (fun a b => (hu a b).2.1) hDI.ok.well.apart hD).weak (fun e => by omega), ⟨_, _, _, hDI.next⟩, size_call hD, short_call hD⟩
theorem NumS.hear (h : SI s f B O u) (hN : NI s g T) (of : Of8) {m : Msg} (hd : q.do_ ≠ 3) (hR : HearR s of m s' t') : NumS s s' t' g T q u := by
  have hDI := h.hear hR
  exact ⟨(hN.hear q.c (h of).ok hDI.ok.well.apart hR).weak (fun e => absurd e hd), ⟨_, _, _, hDI.next⟩, by rw [size_hear hR]; exact Nat.le_succ _, short_hear hR⟩
theorem NumS.endR (h : SI s f B O u) (hN : NI s g T) {n : Nm} {er : Int} (hR : EndR s n er s' t') : NumS s s' t' g T q u := by
  have hDI := h.end_ hR
  exact ⟨hN.endR q.c _ (h zOf).ok hR, ⟨_, _, _, hDI.next⟩, by rw [size_endR hR]; exact Nat.le_succ _, short_endR hR⟩
theorem NumS.tick (h : SI s f B O u) (hN : NI s g T) (hR : s' = s ∧ t' = { Tol.none with mail := tickP s.l }) : NumS s s' t' g T q u := by
  obtain ⟨rfl, rfl⟩ := hR
  exact ⟨hN.tick q.c _ (h zOf).ok, ⟨_, _, _, h.tick.next⟩, Nat.le_succ _, short_tick (h zOf).ok.well.len⟩
theorem NumS.anew (h : SI s f B O u) (hN : NI s g T) (hz : s.size ≤ 500) {sh : Int} (hR : ∃ i D', AnewTo s sh.toNat i D' ∧ D'.s.l.length ≤ i ∧ s' = D'.s ∧ t' = D'.t) : NumS s s' t' g T q u := by
  obtain ⟨i, D', hA, -, rfl, rfl⟩ := hR
  exact ⟨hN.anew q.c _ h hA, ⟨_, _, _, (h.anew hA).1.next⟩, by rw [size_anew hA]; exact Nat.le_succ _, short_anew (h zOf).ok.well.len hz hA⟩
end
/-- what is held at the head of the law of numbers -/
structure NumI (k : Nat) (s : Ses) (g T : Int → Int → Int) (u : Int → Int) (m1 : Mes (Int × Int)) (c1 : Nat) (m2 : Mes (Int × Int)) (c2 : Nat) (mU : Mes Int) (cU : Nat) : Prop where
  si : ∃ f B O, SI s f B O u
  ni : NI s g T
  size : s.size ≤ k
  ub : ∀ z, 0 ≤ u z ∧ u z ≤ k
  g1 : Good enc2 m1 c1
  v1 : CV2 m1 g
  g2 : Good enc2 m2 c2
  v2 : CV2 m2 T
  gU : Good eN mU cU
  vU : CV mU u
/-- a new stamp, after `again` -/
theorem again_fresh {s : Ses} {u u' : Int → Int} {q : Act_} {f : Int → Int} {B O : List Nm} (h : SI s f B O u) (hub : ∀ z, 0 ≤ u z)
    (hc : ((q.do_ ≠ 0 ∨ q.c.kind ≠ 0 ∨ q.c.stamp ≠ 0) ∧ false = false ∧ u' = u) ∨ ((q.do_ = 0 ∧ q.c.kind = 0 ∧ q.c.stamp = 0) ∧ (u' = fun z => if z = q.stamp then u q.stamp + 1 else u z) ∧ false = decide (1 < u q.stamp + 1))) :
    (q.do_ = 0 → Fresh24 s q u') := by
  intro hd
  rcases hc with ⟨h1, -, rfl⟩ | ⟨h1, rfl, h3⟩
  · intro h4 h5; rcases h1 with h1 | h1 | h1
    · exact absurd hd h1
    · exact absurd h4 h1
    · exact absurd h5 h1
  · intro h4 h5
    have h6 : u q.stamp = 0 := by
      have := of_decide_eq_false h3.symm
      have := hub q.stamp
      omega
    have hok := (h zOf).ok
    refine ⟨fun o ho e => ?_, fun x hx e => ?_, ?_⟩
    · have := hok.usedL o ho; rw [e, h6] at this; omega
    · have := hok.usedO x hx; rw [e, h6] at this; omega
    · show 1 ≤ (if q.stamp = q.stamp then u q.stamp + 1 else u q.stamp)
      rw [if_pos rfl, h6]; omega
theorem again_up {u u' : Int → Int} {q : Act_} {r : Bool}
    (hc : ((q.do_ ≠ 0 ∨ q.c.kind ≠ 0 ∨ q.c.stamp ≠ 0) ∧ r = false ∧ u' = u) ∨ ((q.do_ = 0 ∧ q.c.kind = 0 ∧ q.c.stamp = 0) ∧ (u' = fun z => if z = q.stamp then u q.stamp + 1 else u z) ∧ r = decide (1 < u q.stamp + 1))) (z : Int) : u z ≤ u' z ∧ u' z ≤ u z + 1 := by
  rcases hc with ⟨-, -, rfl⟩ | ⟨-, rfl, -⟩
  · omega
  · show u z ≤ (if z = q.stamp then u q.stamp + 1 else u z) ∧ (if z = q.stamp then u q.stamp + 1 else u z) ≤ u z + 1
    split
    · rename_i e; rw [e]; omega
    · omega
theorem SI.mono {s : Ses} {u u' : Int → Int} {f : Int → Int} {B O : List Nm} (h : SI s f B O u) (hu : ∀ z, u z ≤ u' z) : SI s f B O u' := fun of => (h of).mono hu
theorem Mem.pre {w0 w : World} {H : List Ent} (M : Mem w0 w H) (n : Nat) : Mem w0 w (H.take n) := M.sub (List.take_sublist n H)
/-- behind one act, for the law of numbers -/
structure NumX (s : Ses) (g T : Int → Int → Int) (u : Int → Int) (q : Act_) (er : Int) (s' : Ses) (t' : Tol) (u2 : Int → Int) (mU : Mes Int) (cU : Nat) : Prop where
  up : ∀ z, u z ≤ u2 z ∧ u2 z ≤ u z + 1
  gU : Good eN mU cU
  vU : CV mU u2
  step : er = 0 → NumS s s' t' g T q u2
theorem NumI.keep {k : Nat} {s : Ses} {g T : Int → Int → Int} {u u2 : Int → Int} {m1 m2 : Mes (Int × Int)} {c1 c2 : Nat} {mU mU2 : Mes Int} {cU cU2 : Nat} (h : NumI k s g T u m1 c1 m2 c2 mU cU) (up : ∀ z, u z ≤ u2 z ∧ u2 z ≤ u z + 1) (gU : Good eN mU2 cU2) (vU : CV mU2 u2) : NumI (k + 1) s g T u2 m1 c1 m2 c2 mU2 cU2 := by
  obtain ⟨f, B, O, hs⟩ := h.si
  exact ⟨⟨f, B, O, hs.mono fun z => (up z).1⟩, h.ni, Nat.le_succ_of_le h.size, fun z => by have := h.ub z; have := up z; omega, h.g1, h.v1, h.g2, h.v2, gU, vU⟩
theorem NumI.next {k : Nat} {s s' : Ses} {t' : Tol} {g T : Int → Int → Int} {u u2 : Int → Int} {q : Act_} {er : Int} {m1 m2 m3 m4 : Mes (Int × Int)} {c1 c2 c3 c4 : Nat} {mU mU2 : Mes Int} {cU cU2 : Nat} (h : NumI k s g T u m1 c1 m2 c2 mU cU) (hX : NumX s g T u q er s' t' u2 mU2 cU2) (he : er = 0) {g2 T2 : Int → Int → Int} (hN : NI s' g2 T2)
    (g3 : Good enc2 m3 c3) (v3 : CV2 m3 g2) (g4 : Good enc2 m4 c4) (v4 : CV2 m4 T2) : NumI (k + 1) s' g2 T2 u2 m3 c3 m4 c4 mU2 cU2 := by
  have hS := hX.step he
  exact ⟨hS.si, hN, by have := hS.size; have := h.size; omega, fun z => by have := h.ub z; have := hX.up z; omega, g3, v3, g4, v4, hX.gU, hX.vU⟩
theorem NumI.start : NumI 0 ⟨[], 0, 1, []⟩ (fun _ _ => 0) (fun _ _ => 0) (fun _ => 0) [] 0 [] 0 [] 0 := by
  refine ⟨⟨_, _, _, SI.start⟩, ⟨fun o ho => absurd ho (by simp), fun _ _ _ => rfl, fun o ho => absurd ho (by simp), fun _ _ _ => rfl⟩, Nat.le_refl _, fun z => ⟨Int.le_refl _, by show (0 : Int) ≤ ((0 : Nat) : Int); omega⟩, good_nil 0, CV2.nil, good_nil 0, CV2.nil, good_nil 0, fun _ => rfl⟩
end Go.Proofs.Ytniijiipkfhjgaa

namespace Go.Proofs.Ytniijiipkfhjgaa
open Go.RowKit Go.Sort
section
variable {s s' : Ses} {t' : Tol} {of : Of8} {f : Int → Int} {B O : List Nm} {u : Int → Int}
theorem DI.gone (h : DI ⟨s', t', of⟩ f B O u) {y : Seen_} (hy : y ∈ t'.seen) (h4 : y.kind = 4) : ∀ o ∈ s'.l, o.nm ≠ y.nm := fun o ho e => by
  have hin : y.nm ∈ seenO O t'.seen := by
    unfold seenO
    refine List.mem_append_right _ (List.mem_map.2 ⟨y, List.mem_filter.2 ⟨hy, by simp [h4]⟩, rfl⟩)
  rw [← e] at hin
  exact h.ok.alive ho ((h.hO _).1 hin)
theorem DI.sent (h : DI ⟨s', t', of⟩ f B O u) {m : Msg} (hm : m ∈ t'.mail) : (m.name ∈ seenO O t'.seen → m.kind = 6 ∧ m.yes = false) ∧ (m.name ∉ seenO O t'.seen → ∃ o ∈ s'.l, o.nm = m.name) := by
  rcases h.mail m hm with ⟨h1, h2, h3⟩ | ⟨o, ho, e⟩
  · refine ⟨fun _ => ⟨h1, h2⟩, fun h4 => ?_⟩
    rcases (h.hB _).1 h3 with h5 | h5
    · exact h5
    · exact absurd ((h.hO _).2 h5) h4
  · refine ⟨fun h4 => ?_, fun _ => ⟨o, ho, e⟩⟩
    rw [← e] at h4
    exact absurd ((h.hO _).1 h4) (h.ok.alive ho)
end
/-- what one act does, for the law of answers -/
structure OnceS (s s' : Ses) (t' : Tol) (f : Int → Int) (B O : List Nm) (u : Int → Int) : Prop where
  di : ∃ of, DI ⟨s', t', of⟩ f B O u
  size : s'.size ≤ s.size + 1
  short : t'.short
section
variable {s s' : Ses} {t' : Tol} {u : Int → Int} {q : Act_} {f : Int → Int} {B O : List Nm}
theorem OnceS.call (h : SI s f B O u) (of : Of8) (hu : Fresh24 s q u)
    (hR : s.May ∧ (0 ≤ q.c.kind ∧ q.c.kind ≤ 4) ∧ (0 ≤ q.stamp ∧ q.stamp ≤ 1048576) ∧ ∃ D', Dsk.DoesR ⟨s, Tol.none, of⟩ q.c q.bs q.stamp D' ∧ s' = D'.s ∧ t' = D'.t) : OnceS s s' t' (if q.c.kind = 0 then f else bump f q.c.h) B O u := by
  obtain ⟨-, hk, hst, D', hD, rfl, rfl⟩ := hR
  exact ⟨⟨D'.of, h.call of q.c q.bs hk hst (fun a b => hu a b) hD⟩, size_call hD, short_call hD⟩
theorem OnceS.hear (h : SI s f B O u) {of : Of8} {m : Msg} (hR : HearR s of m s' t') : OnceS s s' t' f B O u :=
  ⟨⟨of, h.hear hR⟩, by rw [size_hear hR]; exact Nat.le_succ _, short_hear hR⟩
theorem OnceS.endR (h : SI s f B O u) {n : Nm} {er : Int} (hR : EndR s n er s' t') : OnceS s s' t' f B O u :=
  ⟨⟨zOf, h.end_ hR⟩, by rw [size_endR hR]; exact Nat.le_succ _, short_endR hR⟩
theorem OnceS.tick (h : SI s f B O u) (hR : s' = s ∧ t' = { Tol.none with mail := tickP s.l }) : OnceS s s' t' f B O u := by
  obtain ⟨rfl, rfl⟩ := hR
  exact ⟨⟨zOf, h.tick⟩, Nat.le_succ _, short_tick (h zOf).ok.well.len⟩
theorem OnceS.anew (h : SI s f B O u) (hz : s.size ≤ 500) {sh : Int} (hR : ∃ i D', AnewTo s sh.toNat i D' ∧ D'.s.l.length ≤ i ∧ s' = D'.s ∧ t' = D'.t) : OnceS s s' t' f B O u := by
  obtain ⟨i, D', hA, -, rfl, rfl⟩ := hR
  exact ⟨⟨D'.of, (h.anew hA).1⟩, by rw [size_anew hA]; exact Nat.le_succ _, short_anew (h zOf).ok.well.len hz hA⟩
end
theorem bump_ge (f : Int → Int) (h z : Int) : bump f h z ≤ f z + 1 := by
  unfold bump; split
  · rename_i e; rw [e]; omega
  · omega
/-- what is held at the head of the law of answers -/
structure OnceI (k : Nat) (s : Ses) (f : Int → Int) (B O : List Nm) (u : Int → Int) (mC : Mes Int) (cC : Nat) (mO : Mes Nm) (cO : Nat) (mB : Mes Nm) (cB : Nat) (mU : Mes Int) (cU : Nat) : Prop where
  si : SI s f B O u
  size : s.size ≤ k
  ub : ∀ z, 0 ≤ u z ∧ u z ≤ k
  fb : ∀ z, f z ≤ k
  gC : Good eN mC cC
  vC : CV mC f
  gO : Good encNm mO cO
  vO : CVO mO O
  gB : Good encNm mB cB
  vB : CVB mB B
  gU : Good eN mU cU
  vU : CV mU u
theorem OnceI.start : OnceI 0 ⟨[], 0, 1, []⟩ (fun _ => 0) [] [] (fun _ => 0) [] 0 [] 0 [] 0 [] 0 :=
  ⟨SI.start, Nat.le_refl _, fun z => ⟨Int.le_refl _, by show (0 : Int) ≤ ((0 : Nat) : Int); omega⟩, fun z => by show (0 : Int) ≤ ((0 : Nat) : Int); omega, good_nil 0, fun _ => rfl, good_nil 0, CVO.nil, good_nil 0, CVB.nil, good_nil 0, fun _ => rfl⟩
/-- behind one act, for the law of answers: f1 the calls with this one -/
structure OnceX (s : Ses) (f : Int → Int) (B O : List Nm) (u : Int → Int) (er : Int) (s' : Ses) (t' : Tol) (f1 u2 : Int → Int) (mC : Mes Int) (cC : Nat) (mU : Mes Int) (cU : Nat) : Prop where
  up : ∀ z, u z ≤ u2 z ∧ u2 z ≤ u z + 1
  gU : Good eN mU cU
  vU : CV mU u2
  fp : ∀ z, f1 z ≤ f z + 1
  gC : Good eN mC cC
  vC : CV mC f1
  si : SI s f1 B O u2
  step : er = 0 → OnceS s s' t' f1 B O u2
theorem OnceI.keep {k : Nat} {s : Ses} {f f1 : Int → Int} {B O : List Nm} {u u2 : Int → Int} {mC mC2 : Mes Int} {cC cC2 : Nat} {mO : Mes Nm} {cO : Nat} {mB : Mes Nm} {cB : Nat} {mU mU2 : Mes Int} {cU cU2 : Nat} (h : OnceI k s f B O u mC cC mO cO mB cB mU cU)
    (up : ∀ z, u z ≤ u2 z ∧ u2 z ≤ u z + 1) (gU : Good eN mU2 cU2) (vU : CV mU2 u2) (fp : ∀ z, f1 z ≤ f z + 1) (gC : Good eN mC2 cC2) (vC : CV mC2 f1) (si : SI s f1 B O u2) : OnceI (k + 1) s f1 B O u2 mC2 cC2 mO cO mB cB mU2 cU2 :=
  ⟨si, Nat.le_succ_of_le h.size, fun z => by have := h.ub z; have := up z; omega, fun z => by have := h.fb z; have := fp z; omega, gC, vC, h.gO, h.vO, h.gB, h.vB, gU, vU⟩
theorem OnceI.next {k : Nat} {s s' : Ses} {t' : Tol} {er : Int} {f f1 : Int → Int} {B O : List Nm} {u u2 : Int → Int} {mC mC2 mC3 : Mes Int} {cC cC2 cC3 : Nat} {mO mO3 : Mes Nm} {cO cO3 : Nat} {mB mB3 : Mes Nm} {cB cB3 : Nat} {mU mU2 : Mes Int} {cU cU2 : Nat} (h : OnceI k s f B O u mC cC mO cO mB cB mU cU)
    (hX : OnceX s f B O u er s' t' f1 u2 mC2 cC2 mU2 cU2) (he : er = 0) (gC : Good eN mC3 cC3) (vC : CV mC3 (ansF f1 t'.ans)) (gO : Good encNm mO3 cO3) (vO : CVO mO3 (seenO O t'.seen)) (gB : Good encNm mB3 cB3) (vB : CVB mB3 (seenB B t'.seen)) :
    OnceI (k + 1) s' (ansF f1 t'.ans) (seenB B t'.seen) (seenO O t'.seen) u2 mC3 cC3 mO3 cO3 mB3 cB3 mU2 cU2 := by
  have hS := hX.step he
  obtain ⟨of, hDI⟩ := hS.di
  exact ⟨hDI.next, by have := hS.size; have := h.size; omega, fun z => by have := h.ub z; have := hX.up z; omega, fun z => by have := h.fb z; have := hX.fp z; have := ansF_le f1 t'.ans z; omega, gC, vC, gO, vO, gB, vB, hX.gU, hX.vU⟩
end Go.Proofs.Ytniijiipkfhjgaa

