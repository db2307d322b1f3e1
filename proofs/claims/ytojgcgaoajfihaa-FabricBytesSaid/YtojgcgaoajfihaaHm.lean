/-
  Rows of messages: parts of them, new ones.
-/
import Derived.Test.YtojgcgaoajfihaaHp
import Derived.Test.YtojgcgaoajfihaaMs
import Derived.Test.YtojgcgaoajfihaaGX
namespace Go.Proofs.Ytojgcgaoajfihaa
open Go.RowKit Go.Sort

theorem MsC.wide {cs : List Value} {lo hi lo' hi' : Nat} {w : World} {v : Value} {ms : Ml} (h : MsC cs lo hi w v ms) (h1 : lo' ≤ lo) (h2 : hi ≤ hi') : MsC cs lo' hi' w v ms :=
  ⟨h.1.wide h1 h2, fun i q hi => let ⟨lv, e, hb⟩ := h.2 i q hi; ⟨lv, e, hb.wide h1 h2⟩⟩
theorem MsC.nil (lo hi : Nat) (w : World) : MsC [] lo hi w (.slice none 0 0) [] := ⟨Rd.nil _ _ _ _, fun i q hi => by simp at hi⟩
theorem Mem.msW {w0 w : World} {H : List Ent} {cs : List Value} {v : Value} {ms : Ml} (M : Mem w0 w H) (h : MsC cs 0 w0.heap.size w0 v ms) : MsC cs 0 w.heap.size w v ms := (M.ms h).wide (Nat.le_refl _) M.below.size
theorem MsC.later {cs : List Value} {w w' : World} {v : Value} {ms : Ml} (h : MsC cs 0 w.heap.size w v ms) (hb : Below w.heap.size w w') : MsC cs 0 w'.heap.size w' v ms := ((Mem.start w).grow hb).msW h
/-- one message of them -/
theorem MsC.get {cs : List Value} {lo hi i : Nat} {w : World} {v : Value} {ms : Ml} {q : Msg × List Wr} (h : MsC cs lo hi w v ms) (hi' : ms[i]? = some q) : ∃ ad cp, CellsAt w (adr v).block ((adr v).off + i * 24) (q.1.cells (.slice ad q.2.length cp)).toList ∧ Ws lo hi w (.slice ad q.2.length cp) q.2 := by
  obtain ⟨lv, e, hb⟩ := h.2 i q hi'
  obtain ⟨ad, cp, rfl, -, -⟩ := hb.form
  exact ⟨ad, cp, h.1.at_.row e rfl, hb⟩
theorem MsC.sl {cs : List Value} {lo hi i : Nat} {w : World} {v : Value} {ms : Ml} {q : Msg × List Wr} (h : MsC cs lo hi w v ms) (hi' : ms[i]? = some q) : ∃ ad cp, (cs.drop (i * 24)).take 24 = (q.1.cells (.slice ad q.2.length cp)).toList ∧ Ws lo hi w (.slice ad q.2.length cp) q.2 := by
  obtain ⟨lv, e, hb⟩ := h.2 i q hi'
  obtain ⟨ad, cp, rfl, -, -⟩ := hb.form
  exact ⟨ad, cp, e, hb⟩
/-- a part of them -/
theorem MsC.cut {cs : List Value} {lo hi i j mx : Nat} {w : World} {v : Value} {ms : Ml} (h : MsC cs lo hi w v ms) (h1 : i ≤ j) (h2 : j ≤ ms.length) (h3 : j ≤ mx) (h4 : mx ≤ capV v) :
    MsC ((cs.drop (i * 24)).take ((j - i) * 24)) lo hi w (cutV v i j mx 24) ((ms.drop i).take (j - i)) := by
  refine ⟨?_, fun k q hk => ?_⟩
  · have := h.1.cutv (i := i) (j := j) (mx := mx) h1 h2 h3 h4
    rw [List.length_take, List.length_drop, Nat.min_eq_left (by omega)]; exact this
  · have hlt := (List.getElem?_eq_some_iff.1 hk).1
    rw [List.length_take, List.length_drop] at hlt
    rw [List.getElem?_take_of_lt (by omega), List.getElem?_drop] at hk
    obtain ⟨lv, e, hb⟩ := h.2 (i + k) q hk
    refine ⟨lv, ?_, hb⟩
    rw [← e, List.drop_take, List.drop_drop, List.take_take]
    rw [show i * 24 + k * 24 = (i + k) * 24 by omega, Nat.min_eq_left (by omega)]
/-- a row of messages, in memory of one's own -/
abbrev msE (cs : List Value) (lo hi : Nat) (v : Value) (ms : Ml) : Ent := .own lo hi (fun w => MsC cs lo hi w v ms)
theorem Mem.pushMs {w0 w w' : World} {H : List Ent} {cs : List Value} {v : Value} {ms : Ml} (M : Mem w0 w H) (hb : Below w.heap.size w w') (h : MsC cs w.heap.size w'.heap.size w' v ms) : ∃ lo hi, Mem w0 w' (msE cs lo hi v ms :: H) :=
  ⟨_, _, M.push hb (.own w.heap.size w'.heap.size fun x => MsC cs w.heap.size w'.heap.size x v ms) (fun w'' hs => h.same hs) (Nat.le_refl _) (Nat.le_refl _)⟩
theorem Mem.msAll {w0 w : World} {H : List Ent} {cs : List Value} {v : Value} {ms : Ml} {lo hi : Nat} (M : Mem w0 w H) (p : Nat) (h : H[p]? = some (msE cs lo hi v ms)) : MsC cs 0 w.heap.size w v ms :=
  (M.own p h).wide (Nat.zero_le _) (M.fits _ (List.mem_of_getElem? h)).2

theorem Mem.msNew {w0 w : World} {H : List Ent} {cs : List Value} {v : Value} {ms : Ml} {lo hi : Nat} (M : Mem w0 w H) (p : Nat) (h : H[p]? = some (msE cs lo hi v ms)) : MsC cs w0.heap.size w.heap.size w v ms :=
  (M.own p h).wide (M.fits _ (List.mem_of_getElem? h)).1 (M.fits _ (List.mem_of_getElem? h)).2
theorem MsC.single {m : Msg} {x : List Wr} {lv v : Value} {lo hi : Nat} {w : World} (hR : Rd lo hi w 24 v 1 (m.cells lv).toList) (hW : Ws lo hi w lv x) : MsC (m.cells lv).toList lo hi w v [(m, x)] :=
  ⟨hR, fun i q hq => by
    cases i with
    | zero => obtain rfl : (m, x) = q := by simpa using hq
              exact ⟨lv, rfl, hW⟩
    | succ i => simp at hq⟩
/-- the cells of messages, whose writes lie in rows of one's own -/
def MsBk (cs : List Value) (ms : Ml) (es : List Ent) : Prop :=
  cs.length = ms.length * 24 ∧ ∀ (i : Nat) (q : Msg × List Wr), ms[i]? = some q → ∃ lv lo hi, (cs.drop (i * 24)).take 24 = (q.1.cells lv).toList ∧ rowE lo hi 72 9 lv q.2.length (wcells q.2) ∈ es ∧ q.2.length ≤ maxLen
theorem MsBk.nil : MsBk [] [] [] := ⟨rfl, fun i q hi => by simp at hi⟩
theorem MsBk.more {cs : List Value} {ms : Ml} {es : List Ent} {q : Msg × List Wr} {lv : Value} {lo hi : Nat} (h : MsBk cs ms es) (hl : q.2.length ≤ maxLen) :
    MsBk (cs ++ (q.1.cells lv).toList) (ms ++ [q]) (rowE lo hi 72 9 lv q.2.length (wcells q.2) :: es) := by
  refine ⟨by rw [List.length_append, h.1, List.length_append]; simp; omega, fun i x hx => ?_⟩
  rcases Nat.lt_or_ge i ms.length with h1 | h1
  · rw [List.getElem?_append_left h1] at hx
    obtain ⟨lv', lo', hi', h2, h3, h4⟩ := h.2 i x hx
    have h0 := h.1
    refine ⟨lv', lo', hi', ?_, List.mem_cons_of_mem _ h3, h4⟩
    rw [← h2, List.drop_append_of_le_length (by omega), List.take_append_of_le_length (by rw [List.length_drop]; omega)]
  · have : i = ms.length := by
      have := (List.getElem?_eq_some_iff.1 hx).1
      simp at this; omega
    subst this
    rw [List.getElem?_append_right (Nat.le_refl _)] at hx
    simp only [Nat.sub_self, List.getElem?_cons_zero, Option.some.injEq] at hx
    subst hx
    refine ⟨lv, lo, hi, ?_, List.mem_cons_self .., hl⟩
    rw [← h.1, List.drop_left]; rfl
theorem MsBk.msC {cs : List Value} {ms : Ml} {es H : List Ent} {w0 w : World} {lo hi t : Nat} {v : Value} (h : MsBk cs ms es) (M : Mem w0 w H) (h1 : rowE lo hi t 24 v ms.length cs ∈ H) (h2 : ∀ e ∈ es, e ∈ H) (hm : ms.length ≤ maxLen) : MsC cs w0.heap.size w.heap.size w v ms := by
  have r1 := M.ok _ h1 w (fun _ _ _ => rfl)
  have f1 := M.fits _ h1
  refine ⟨(Rd.of_row r1.1 r1.2 hm).wide f1.1 f1.2, fun i q hq => ?_⟩
  obtain ⟨lv, lo', hi', e, hmem, hx⟩ := h.2 i q hq
  have r2 := M.ok _ (h2 _ hmem) w (fun _ _ _ => rfl)
  have f2 := M.fits _ (h2 _ hmem)
  exact ⟨lv, e, (Rd.of_row r2.1 r2.2 hx).wide f2.1 f2.2⟩

end Go.Proofs.Ytojgcgaoajfihaa
