/-
  Package cashboxlaw04: wakes.
-/
import Derived.Test.YtafejnbfgkkjkaaGF
namespace Go.Proofs.Ytafejnbfgkkjkaa
open Go.RowKit Go.Sort

/-- the frames from the i-th on -/
theorem FrsC.drop {cs : List Value} {lo hi : Nat} {w : World} {v : Value} {fs : List (Fr × List UInt8)} (h : FrsC cs lo hi w v fs) (i : Nat) (hi' : i ≤ fs.length) :
    FrsC ((cs.drop (i * 6)).take ((fs.length - i) * 6)) lo hi w (cutV v i fs.length (capV v) 6) (fs.drop i) := by
  have hc := h.1.cap
  refine ⟨?_, fun j f bs hj => ?_⟩
  · have := h.1.cutv (i := i) (j := fs.length) (mx := capV v) hi' (Nat.le_refl _) hc.1 (Nat.le_refl _)
    rw [List.length_drop]; exact this
  · rw [List.getElem?_drop] at hj
    obtain ⟨lv, e, hb⟩ := h.2 (i + j) f bs hj
    refine ⟨lv, ?_, hb⟩
    have hlt := (List.getElem?_eq_some_iff.1 hj).1
    rw [← e, List.drop_take, List.drop_drop, List.take_take]
    rw [show i * 6 + j * 6 = (i + j) * 6 by omega, Nat.min_eq_left (by omega)]

def wk0 : List UInt8 := List.replicate 85 0
def wkF : List (Fr × List UInt8) := [(⟨7, 1, 0, 2, sumT wk0⟩, List.replicate 45 0), (⟨8, 1, 1, 2, sumT wk0⟩, List.replicate 40 0)]
theorem wk_ok : cutOk wk0 7 1 := by
  refine ⟨by simp [wk0], by omega, by omega, by simp [wk0], by simp [wk0, nOf]⟩
theorem wk_cutF : cutF wk0 7 1 = wkF := by
  have h2 : nOf wk0.length = 2 := by simp [wk0, nOf]
  unfold cutF
  rw [h2]
  simp only [List.range, List.range.loop, List.map_cons, List.map_nil, frOf, h2, wkF]
  simp [wk0]
theorem wk_cutR : cutR wk0 7 1 = wkF := by unfold cutR; rw [if_pos wk_ok, wk_cutF]
theorem wk_cutE : cutE wk0 7 1 = 0 := by unfold cutE; rw [if_pos wk_ok]
theorem wk_out : outF wkF = wk0 := by
  simp only [outF, wkF, List.flatMap_cons, List.flatMap_nil, List.append_nil, wk0]
  rw [List.replicate_append_replicate]
theorem wk_join : joinOk wkF := by
  refine ⟨_, _, _, rfl, by simp [wkF], ?_, ?_, ?_⟩
  · intro x hx
    simp only [wkF, List.mem_cons, List.not_mem_nil, or_false] at hx
    rcases hx with rfl | rfl <;> simp [Fr.may]
  · rw [wk_out]; exact wk_ok
  · rw [wk_out]; exact wk_cutF
theorem wk_no : ¬ joinOk (wkF.drop 1) := by
  rintro ⟨f, bs, r, e, _, _, _, h⟩
  simp only [wkF, List.drop_succ_cons, List.drop_zero] at e h
  have e1 := (List.cons.inj e).1
  have e2 : f = ⟨8, 1, 1, 2, sumT wk0⟩ := (congrArg Prod.fst e1).symm
  subst e2
  have h2 := congrArg (fun l => (l[0]?).map (fun x => x.1.part)) h
  simp [cutF, outF, nOf, frOf] at h2

end Go.Proofs.Ytafejnbfgkkjkaa
