/-
  Plain: what the law's inner loop keeps; the frames that are read back.
-/
import Derived.Test.YtdkdplahikoicaaBack
import Derived.Test.YtdkdplahikoicaaVD
import Derived.Test.YtdkdplahikoicaaL4D
namespace Go.Proofs.Ytdkdplahikoicaa
open Go.RowKit Go.Sort

theorem turn_round {X : BitVec 32} {s bd : List UInt8} {K j : Nat} {b : UInt8} {W : BitVec 32} (hl : bd.length = 64) (hj : j < 32) (hk : K + j < 512) (hb : bd[(K + j) / 8]? = some b)
    (hr : refRun X bd = refRun X s ^^^ stepN (512 - K) W) (h0 : j = 0 → W = 0#32) (hp : 0 < j → W.getLsbD 0 = true) :
    refRun X (bd.set ((K + j) / 8) (b ^^^ bitB ((K + j) % 8))) = refRun X s ^^^ stepN (512 - K) (W ^^^ (1#32 <<< j)) ∧ (W ^^^ (1#32 <<< j)).getLsbD 0 = true := by
  have h := turn_bit (r := X) (bs := bd) (k := K) (j := j) (b := b) (c := bitB ((K + j) % 8)) hj (by omega) hb (bitB_toNat (Nat.mod_lt _ (by omega)))
  rw [hl] at h
  refine ⟨by rw [h, hr, stepN_xor, BitVec.xor_assoc], ?_⟩
  rcases Nat.eq_zero_or_pos j with rfl | hpos
  · rw [h0 rfl]; decide
  · rw [BitVec.getLsbD_xor, hp hpos, BitVec.getLsbD_shiftLeft]; simp [hpos]
theorem stepN_of_zero : ∀ k, stepN k 0#32 = 0#32
  | 0 => rfl
  | k + 1 => by rw [stepN, stepN_of_zero k]; decide
theorem turn_first (bits : BitVec 32) : (((bits ||| 1#32) >>> 0) &&& 1#32 == 1#32) = true := by
  have : ((bits ||| 1#32) >>> 0) &&& 1#32 = 1#32 := by
    apply BitVec.eq_of_getLsbD_eq
    intro i hi
    rcases Nat.eq_zero_or_pos i with rfl | hp
    · simp [BitVec.getLsbD_or]
    · have h1 : (1#32).getLsbD i = false := by simp [BitVec.getLsbD_one]; omega
      simp [h1]
  rw [this]; rfl

/-- a row that is told by its being there -/
theorem Mem.readMem {w0 w : World} {H : List Ent} {lo hi e sz m : Nat} {x : Value} {xs : List Value} (M : Mem w0 w H) (h : rowE lo hi e sz x m xs ∈ H) (hm : m ≤ maxLen) : Rd 0 w.heap.size w sz x m xs := by
  have h1 := M.ok _ h w (fun _ _ _ => rfl)
  exact (Rd.of_row h1.1 h1.2 hm).wide (Nat.zero_le _) (M.fits _ h).2

/-- the frames that were read back: cells, loads -/
def BackOk (bs : List UInt8) (seq inc : Int) (cs : List Value) (lvs : List Value) (es : List Ent) : Prop :=
  ∀ i lv, lvs[i]? = some lv → (cs.drop (i * 6)).take 6 = (frOf bs seq inc i).1.cells lv ∧ ∃ lo hi, rowE lo hi 5 1 lv (frOf bs seq inc i).2.length (bcells (frOf bs seq inc i).2) ∈ es
theorem BackOk.more {bs : List UInt8} {seq inc : Int} {cs : List Value} {lvs : List Value} {es : List Ent} {lv : Value} {lo hi : Nat} (h : BackOk bs seq inc cs lvs es) (hc : cs.length = lvs.length * 6) :
    BackOk bs seq inc (cs ++ (frOf bs seq inc lvs.length).1.cells lv) (lvs ++ [lv]) (rowE lo hi 5 1 lv (frOf bs seq inc lvs.length).2.length (bcells (frOf bs seq inc lvs.length).2) :: es) := by
  intro i x hx
  rcases Nat.lt_or_ge i lvs.length with h1 | h1
  · rw [List.getElem?_append_left h1] at hx
    obtain ⟨h2, lo', hi', h3⟩ := h i x hx
    refine ⟨?_, lo', hi', List.mem_cons_of_mem _ h3⟩
    rw [← h2, List.drop_append_of_le_length (by omega), List.take_append_of_le_length (by rw [List.length_drop]; omega)]
  · have : i = lvs.length := by
      have := (List.getElem?_eq_some_iff.1 hx).1
      simp at this; omega
    subst this
    rw [List.getElem?_append_right (Nat.le_refl _)] at hx
    simp only [Nat.sub_self, List.getElem?_cons_zero, Option.some.injEq] at hx
    subst hx
    refine ⟨?_, lo, hi, List.mem_cons_self ..⟩
    rw [← hc, List.drop_left]; rfl
theorem BackOk.frs {bs : List UInt8} {seq inc : Int} {cs : List Value} {lvs : List Value} {es : List Ent} {v : Value} {w0 w : World} {lo hi t : Nat} {E : Ent} (h : BackOk bs seq inc cs lvs es) (hok : cutOk bs seq inc) (hk : lvs.length = nOf bs.length) (hn : nOf bs.length ≤ 2)
    (M : Mem w0 w (rowE lo hi t 6 v (nOf bs.length) cs :: E :: es)) : FrsC cs 0 w.heap.size w v (cutR bs seq inc) := by
  have hlen := cutR_length hok
  refine ⟨by rw [hlen]; exact M.wide (k := 0) rfl (by unfold maxLen; omega), fun i f ld hi' => ?_⟩
  have hlt : i < nOf bs.length := by rw [← hlen]; exact (List.getElem?_eq_some_iff.1 hi').1
  rw [cutR_get hok hlt] at hi'
  obtain ⟨h1, lo', hi'', h2⟩ := h i _ (List.getElem?_eq_getElem (by omega))
  have e2 : frOf bs seq inc i = (f, ld) := Option.some.inj hi'
  rw [e2] at h1 h2
  have hld : ld.length ≤ 45 := by have := congrArg (fun x => x.2.length) e2; simp only [frOf, List.length_take] at this; omega
  exact ⟨_, h1, M.readMem (List.mem_cons_of_mem _ (List.mem_cons_of_mem _ h2)) (by unfold maxLen; omega)⟩

theorem rd_some {bs : List UInt8} (h : rdE bs = 0) : (rdF bs).may (rdL bs).length = true ∧ bytesF (rdF bs) (rdL bs) = bs := by
  unfold rdE at h; unfold rdF rdL
  cases hR : readF bs with
  | none => rw [hR] at h; simp at h
  | some x => exact readF_spec hR

end Go.Proofs.Ytdkdplahikoicaa
