/-
  The document's layer 15: May.
-/
import Derived.Test.YtidpeojkkfmgeaaFa
namespace Go.Proofs.Ytidpeojkkfmgeaa
open Go.RowKit Go.Sort

def fKind (m : Msg) (x : List Wr) : Bool :=
  if m.kind = 2 then decide ((1 ≤ m.n ∧ m.n ≤ 1048576) ∧ (0 ≤ m.op ∧ m.op ≤ 2) ∧ (0 ≤ m.block ∧ m.block < 32))
  else if m.kind = 3 then decide ((1 ≤ m.n ∧ m.n ≤ 1048576) ∧ (m.e = 0 ∨ m.e = 120 ∨ m.e = 112 ∨ m.e = 121 ∨ m.e = 50))
  else if m.kind = 4 then givenB m.give m.take && writtenB x
  else if m.kind = 10 then decide (m.e = 0 ∨ m.e = 50 ∨ m.e = 121)
  else true
def fHeadP (m : Msg) : Prop := (0 ≤ m.frm ∧ m.frm ≤ 4) ∧ (0 ≤ m.to ∧ m.to ≤ 4) ∧ ¬ ((m.frm = 0) ↔ (m.to = 0)) ∧ (kdown m.kind = true ↔ m.frm = 0)
def refMayM (m : Msg) (x : List Wr) : Prop :=
  (1 ≤ m.kind ∧ m.kind ≤ 11) ∧ m.same m.flds x (fldMX m x) = true ∧ fHeadP m ∧ (1 ≤ m.inc ∧ m.inc ≤ 1048576) ∧ (0 ≤ m.your ∧ m.your ≤ 1048576) ∧ (m.kind = 1 ∨ m.kind = 11 ∨ (m.name.named = true ∧ fKind m x = true))
theorem head_iff {m : Msg} : fHeadP m ↔ betweenB m.frm m.to (kdown m.kind) = true := by
  unfold fHeadP betweenB
  cases kdown m.kind <;> simp <;> omega
theorem may2 (nm : Nm) (g t : Int) (x : List Wr) : Rc.may ⟨2, nm, false, g, t, 0, 0, 0, 0⟩ x = (nm.named && (givenB g t && writtenB x)) := by
  have e : Rc.may ⟨2, nm, false, g, t, 0, 0, 0, 0⟩ x = (nm.named && writtenB x && bitsB g && bitsB t && andV g t == 0) := by
    unfold Rc.may Rc.ok Rc.rest
    have : (Rc.same ⟨2, ⟨0, 0, 0⟩, false, 0, 0, 0, 0, 0, 0⟩ ⟨2, ⟨0, 0, 0⟩, false, 0, 0, 0, 0, 0, 0⟩ [] []) = true := Rc.same_iff.2 ⟨rfl, rfl⟩
    simp [this]
  rw [e]; unfold givenB
  cases nm.named <;> cases writtenB x <;> cases bitsB g <;> cases bitsB t <;> cases (andV g t == 0) <;> rfl
set_option maxHeartbeats 4000000 in
theorem mayM_ref (m : Msg) (x : List Wr) : m.may x = true ↔ refMayM m x := by
  unfold refMayM
  rw [head_iff]
  unfold Msg.may
  have h8 : ∀ v : V8, v.zero = true ↔ v = ⟨0, 0, 0, 0, 0, 0, 0, 0⟩ := fun v => V8.eqb_iff
  by_cases hk : 1 ≤ m.kind ∧ m.kind ≤ 11
  · have hc : m.kind = 1 ∨ m.kind = 2 ∨ m.kind = 3 ∨ m.kind = 4 ∨ m.kind = 5 ∨ m.kind = 6 ∨ m.kind = 7 ∨ m.kind = 8 ∨ m.kind = 9 ∨ m.kind = 10 ∨ m.kind = 11 := by omega
    by_cases hb : betweenB m.frm m.to (kdown m.kind) = true
    · by_cases hi : (1 ≤ m.inc ∧ m.inc ≤ 1048576) ∧ (0 ≤ m.your ∧ m.your ≤ 1048576)
      · rw [if_pos ⟨hk.1, hk.2, hb, hi.1.1, hi.1.2, hi.2.1, hi.2.2⟩, Bool.and_eq_true, Msg.same_iff, Msg.same_iff]
        simp only [hk, hb, hi, and_self, true_and, and_true]
        obtain ⟨kind, frm, to, inc, your, name, n, op, block, val, e, yes, give, take⟩ := m
        simp only at hc
        rcases hc with rfl | rfl | rfl | rfl | rfl | rfl | rfl | rfl | rfl | rfl | rfl
        all_goals
          simp [bareM, bareX, khas, kfields, Msg.flds, fldMX, fitB, fitHead, fitKind, fKind, withinB, may2, h8]
        · constructor
          · rintro ⟨⟨⟨a1, a2, a3, a4⟩, ax⟩, ⟨b1, b2⟩, ⟨c1, c2, c3, c4⟩, d⟩
            exact ⟨⟨⟨fun hn => d.resolve_left hn, a1, a2, a3, a4⟩, ax⟩, b1, b2, ⟨c1, c2⟩, c3, c4⟩
          · rintro ⟨⟨⟨d, a1, a2, a3, a4⟩, ax⟩, b1, b2, ⟨c1, c2⟩, c3, c4⟩
            exact ⟨⟨⟨a1, a2, a3, a4⟩, ax⟩, ⟨b1, b2⟩, ⟨c1, c2, c3, c4⟩, (Decidable.em (op = 1)).imp_right d⟩
        · constructor
          · rintro ⟨⟨⟨a1, a2, a3, a4, a5⟩, ax⟩, ⟨b1, b2⟩, d⟩
            refine ⟨⟨⟨a1, a2, ?_, a3, a4, a5⟩, ax⟩, b1, b2, ?_⟩
            · intro hn
              rcases d with d | ⟨-, d⟩
              · exact absurd d hn
              · exact d
            · rcases d with d | ⟨d, -⟩ <;> omega
          · rintro ⟨⟨⟨a1, a2, dv, a3, a4, a5⟩, ax⟩, b1, b2, d⟩
            refine ⟨⟨⟨a1, a2, a3, a4, a5⟩, ax⟩, ⟨b1, b2⟩, ?_⟩
            by_cases h0 : e = 0
            · exact .inl h0
            · exact .inr ⟨by omega, dv h0⟩
        · intros; omega
      · rw [if_neg (by rintro ⟨-, -, -, h4, h5, h6, h7⟩; exact hi ⟨⟨h4, h5⟩, h6, h7⟩)]
        constructor
        · intro h; cases h
        · rintro ⟨-, -, -, h4, h5, -⟩; exact absurd ⟨h4, h5⟩ hi
    · rw [if_neg (by rintro ⟨-, -, h, -⟩; exact hb h)]
      constructor
      · intro h; cases h
      · rintro ⟨-, -, h, -⟩; exact absurd h hb
  · rw [if_neg (by rintro ⟨h1, h2, -⟩; exact hk ⟨h1, h2⟩)]
    constructor
    · intro h; cases h
    · rintro ⟨h, -⟩; exact absurd h hk

set_option maxHeartbeats 4000000 in
theorem fMay_any (m : Msg) (va : Option Addr) (vn vc : Nat) (x : List Wr) (w : World) (hv : Ws 0 w.heap.size w (.slice va vn vc) x) :
    Calls Try.prog 10 #[.agg (m.cells (.slice va vn vc))] w fun e w' => e = .returned (.bool (m.may x)) ∧ Below w.heap.size w w' := by
  have M := Mem.start w
  have hW : Ws 0 w.heap.size w (fldMV m (.slice va vn vc)) (fldMX m x) := by
    unfold fldMV fldMX; split
    · exact hv
    · exact Rd.nil _ _ _ _
  have yes : refMayM m x → ∀ b : Bool, b = true → b = m.may x := fun h b hb => by rw [(mayM_ref m x).2 h, hb]
  have no : ¬ refMayM m x → ∀ b : Bool, b = false → b = m.may x := fun h b hb => by
    rw [hb]
    cases e : m.may x with
    | false => rfl
    | true => exact absurd ((mayM_ref m x).1 e) h
  have both : ∀ b : Bool, (b = true ↔ refMayM m x) → b = m.may x := fun b h => by
    by_cases hr : refMayM m x
    · exact yes hr b (h.2 hr)
    · exact no hr b (by cases b; rfl; exact absurd (h.1 rfl) hr)
  refine calls_enter Try.func10 rfl 180 rfl rfl ?_; intro a S
  refine nxD ?_
  refine st_box S M rfl rfl rfl #[_, _, _, _, _, _, _, _, _, _, _, _, _, _, _, _, _, _, _, _, _, _, _, _] rfl ?_; clear S M a; intro a w1 b1 S M hB
  refine st_go [1] S rfl (by kernel_rfl) ?_; clear S a; intro a S
  refine nxC ?_
  refine wp_seq ?_
  refine wp_seq ?_
  refine wp_quiet M (by kernel_rfl) (by kernel_rfl) ?_
  refine qt_y S rfl rfl rfl (fun w M => y_fieldAddr (k := 0) S (by kernel_rfl) rfl) ?_; clear S a; intro a S
  refine qt_y S rfl rfl rfl (fun w M => y_load S (by kernel_rfl) rfl (M.cell 0 rfl rfl)) ?_; clear S a; intro a S
  refine qt_y S rfl rfl rfl (fun w M => y_int S rfl rfl rfl) ?_; clear S a; intro a S
  refine qt_y S rfl rfl rfl (fun w M => y_move S rfl) ?_; clear S a; intro a S
  refine st_if (t := 6) S rfl ?_ ?_
  · clear S; intro h6 S
    refine qt_skip 3 S rfl ?_; clear S a; intro a S
    refine qt_y S rfl rfl rfl (fun w M => y_pickT S rfl rfl) ?_; clear S a; intro a S
    refine qt_y S rfl rfl rfl (fun w M => y_move S rfl) ?_; clear S a; intro a S
    refine qt_skip 5 S rfl ?_; clear S a; intro a S
    refine qt_y S rfl rfl rfl (fun w M => y_pickT S rfl rfl) ?_; clear S a; intro a S
    refine qt_y S rfl rfl rfl (fun w M => y_move S rfl) ?_; clear S a; intro a S
    refine qt_skip 3 S rfl ?_; clear S a; intro a S
    refine qt_y S rfl rfl rfl (fun w M => y_pickT S rfl rfl) ?_; clear S a; intro a S
    refine qt_y S rfl rfl rfl (fun w M => y_move S rfl) ?_; clear S a; intro a S
    refine qt_skip 3 S rfl ?_; clear S a; intro a S
    refine qt_y S rfl rfl rfl (fun w M => y_pickT S rfl rfl) ?_; clear S a; intro a S
    refine qt_y S rfl rfl rfl (fun w M => y_move S rfl) ?_; clear S a; intro a S
    refine qt_skip 3 S rfl ?_; clear S a; intro a S
    refine qt_y S rfl rfl rfl (fun w M => y_pickT S rfl rfl) ?_; clear S a; intro a S
    refine qt_y S rfl rfl rfl (fun w M => y_move S rfl) ?_; clear S a; intro a S
    refine qt_skip 3 S rfl ?_; clear S a; intro a S
    refine qt_y S rfl rfl rfl (fun w M => y_pickT S rfl rfl) ?_; clear S a; intro a S
    refine qt_y S rfl rfl rfl (fun w M => y_move S rfl) ?_; clear S a; intro a S
    refine qt_skip 7 S rfl ?_; clear S a; intro a S
    refine qt_y S rfl rfl rfl (fun w M => y_pickT S rfl rfl) ?_; clear S a; intro a S
    refine qt_y S rfl rfl rfl (fun w M => y_move S rfl) ?_; clear S a; intro a S
    refine qt_skip 7 S rfl ?_; clear S a; intro a S
    refine qt_y S rfl rfl rfl (fun w M => y_pickT S rfl rfl) ?_; clear S a; intro a S
    refine wpQuiet_nil ?_; clear M; intro w2 M
    replace S := S.sub [(0, _), (1, _), (2, _), (55, _)] rfl
    refine then_normal ?_
    refine st_condT S rfl ?_
    refine nxD ?_
    refine st_go [1] S rfl (by kernel_rfl) ?_; clear S a; intro a S
    refine nxC ?_
    refine wp_ret ?_
    refine then_ret ?_
    refine end_one S rfl (res_tmp rfl) ?_
    refine ⟨ret_bool (no ?_ _ rfl), M.below⟩; clear S M yes no both; rintro ⟨q1, q2, ⟨q3, q4, q5, q6⟩, -⟩
    first
      | omega
      | (rw [q2] at h18; simp at h18; done)
      | (apply q5; simp at h47; constructor <;> intro hz <;> simp_all; done)
      | (by_cases hz : m.frm = 0 <;> simp [hz] at q6 h55 <;> simp_all; done)
  clear S; intro h6 S
  refine qt_y S rfl rfl rfl (fun w M => y_fieldAddr (k := 0) S (by kernel_rfl) rfl) ?_; clear S a; intro a S
  refine qt_y S rfl rfl rfl (fun w M => y_load S (by kernel_rfl) rfl (M.cell 0 rfl rfl)) ?_; clear S a; intro a S
  refine qt_y S rfl rfl rfl (fun w M => y_int S rfl rfl rfl) ?_; clear S a; intro a S
  refine qt_y S rfl rfl rfl (fun w M => y_pickF S rfl rfl) ?_; clear S a; intro a S
  refine qt_y S rfl rfl rfl (fun w M => y_move S rfl) ?_; clear S a; intro a S
  refine st_if (t := 11) S rfl ?_ ?_
  · clear S; intro h11 S
    refine qt_skip 5 S rfl ?_; clear S a; intro a S
    refine qt_y S rfl rfl rfl (fun w M => y_pickT S rfl rfl) ?_; clear S a; intro a S
    refine qt_y S rfl rfl rfl (fun w M => y_move S rfl) ?_; clear S a; intro a S
    refine qt_skip 3 S rfl ?_; clear S a; intro a S
    refine qt_y S rfl rfl rfl (fun w M => y_pickT S rfl rfl) ?_; clear S a; intro a S
    refine qt_y S rfl rfl rfl (fun w M => y_move S rfl) ?_; clear S a; intro a S
    refine qt_skip 3 S rfl ?_; clear S a; intro a S
    refine qt_y S rfl rfl rfl (fun w M => y_pickT S rfl rfl) ?_; clear S a; intro a S
    refine qt_y S rfl rfl rfl (fun w M => y_move S rfl) ?_; clear S a; intro a S
    refine qt_skip 3 S rfl ?_; clear S a; intro a S
    refine qt_y S rfl rfl rfl (fun w M => y_pickT S rfl rfl) ?_; clear S a; intro a S
    refine qt_y S rfl rfl rfl (fun w M => y_move S rfl) ?_; clear S a; intro a S
    refine qt_skip 3 S rfl ?_; clear S a; intro a S
    refine qt_y S rfl rfl rfl (fun w M => y_pickT S rfl rfl) ?_; clear S a; intro a S
    refine qt_y S rfl rfl rfl (fun w M => y_move S rfl) ?_; clear S a; intro a S
    refine qt_skip 7 S rfl ?_; clear S a; intro a S
    refine qt_y S rfl rfl rfl (fun w M => y_pickT S rfl rfl) ?_; clear S a; intro a S
    refine qt_y S rfl rfl rfl (fun w M => y_move S rfl) ?_; clear S a; intro a S
    refine qt_skip 7 S rfl ?_; clear S a; intro a S
    refine qt_y S rfl rfl rfl (fun w M => y_pickT S rfl rfl) ?_; clear S a; intro a S
    refine wpQuiet_nil ?_; clear M; intro w3 M
    replace S := S.sub [(0, _), (1, _), (2, _), (55, _)] rfl
    refine then_normal ?_
    refine st_condT S rfl ?_
    refine nxD ?_
    refine st_go [1] S rfl (by kernel_rfl) ?_; clear S a; intro a S
    refine nxC ?_
    refine wp_ret ?_
    refine then_ret ?_
    refine end_one S rfl (res_tmp rfl) ?_
    refine ⟨ret_bool (no ?_ _ rfl), M.below⟩; clear S M yes no both; rintro ⟨q1, q2, ⟨q3, q4, q5, q6⟩, -⟩
    first
      | omega
      | (rw [q2] at h18; simp at h18; done)
      | (apply q5; simp at h47; constructor <;> intro hz <;> simp_all; done)
      | (by_cases hz : m.frm = 0 <;> simp [hz] at q6 h55 <;> simp_all; done)
  clear S; intro h11 S
  refine qt_y S rfl rfl rfl (fun w M => y_loadAgg (cs := [_, _, _, _, _, _, _, _, _, _, _, _, _, _, _, _, _, _, _, _, _, _, _, _]) S (by kernel_rfl) rfl rfl (M.cellsAt (k := 24) 0 rfl rfl)) ?_; clear S a; intro a S
  refine qt_y S rfl rfl rfl (fun w M => y_loadAgg (cs := [_, _, _, _, _, _, _, _, _, _, _, _, _, _, _, _, _, _, _, _, _, _, _, _]) S (by kernel_rfl) rfl rfl (M.cellsAt (k := 24) 0 rfl rfl)) ?_; clear S a; intro a S
  refine qt_call (xs := [(Operand.tmp 13)]) S (enters_of Try.func28 (by decide) rfl) rfl rfl rfl (quiet_of fun w M => fFields_any m va vn vc _) ?_; clear S a; intro a S
  refine qt_call (xs := [(Operand.tmp 12), (Operand.tmp 14)]) S (enters_of Try.func27 (by decide) rfl) rfl rfl rfl (quiet_of fun w M => fSame_any m m.flds _ _ x (fldMX m x) _ (M.argW hv) (M.argW hW)) ?_; clear S a; intro a S
  refine qt_y S rfl rfl rfl (fun w M => y_not S rfl) ?_; clear S a; intro a S
  refine qt_y S rfl rfl rfl (fun w M => y_pickF S rfl rfl) ?_; clear S a; intro a S
  refine qt_y S rfl rfl rfl (fun w M => y_move S rfl) ?_; clear S a; intro a S
  refine st_split (t := 18) S rfl ?_ ?_
  · clear S; intro h18 S
    refine qt_skip 3 S rfl ?_; clear S a; intro a S
    refine qt_y S rfl rfl rfl (fun w M => y_pickT S rfl rfl) ?_; clear S a; intro a S
    refine qt_y S rfl rfl rfl (fun w M => y_move S rfl) ?_; clear S a; intro a S
    refine qt_skip 3 S rfl ?_; clear S a; intro a S
    refine qt_y S rfl rfl rfl (fun w M => y_pickT S rfl rfl) ?_; clear S a; intro a S
    refine qt_y S rfl rfl rfl (fun w M => y_move S rfl) ?_; clear S a; intro a S
    refine qt_skip 3 S rfl ?_; clear S a; intro a S
    refine qt_y S rfl rfl rfl (fun w M => y_pickT S rfl rfl) ?_; clear S a; intro a S
    refine qt_y S rfl rfl rfl (fun w M => y_move S rfl) ?_; clear S a; intro a S
    refine qt_skip 3 S rfl ?_; clear S a; intro a S
    refine qt_y S rfl rfl rfl (fun w M => y_pickT S rfl rfl) ?_; clear S a; intro a S
    refine qt_y S rfl rfl rfl (fun w M => y_move S rfl) ?_; clear S a; intro a S
    refine qt_skip 7 S rfl ?_; clear S a; intro a S
    refine qt_y S rfl rfl rfl (fun w M => y_pickT S rfl rfl) ?_; clear S a; intro a S
    refine qt_y S rfl rfl rfl (fun w M => y_move S rfl) ?_; clear S a; intro a S
    refine qt_skip 7 S rfl ?_; clear S a; intro a S
    refine qt_y S rfl rfl rfl (fun w M => y_pickT S rfl rfl) ?_; clear S a; intro a S
    refine wpQuiet_nil ?_; clear M; intro w6 M
    replace S := S.sub [(0, _), (1, _), (2, _), (55, _)] rfl
    refine then_normal ?_
    refine st_condT S rfl ?_
    refine nxD ?_
    refine st_go [1] S rfl (by kernel_rfl) ?_; clear S a; intro a S
    refine nxC ?_
    refine wp_ret ?_
    refine then_ret ?_
    refine end_one S rfl (res_tmp rfl) ?_
    refine ⟨ret_bool (no ?_ _ rfl), M.below⟩; clear S M yes no both; rintro ⟨q1, q2, ⟨q3, q4, q5, q6⟩, -⟩
    first
      | omega
      | (rw [q2] at h18; simp at h18; done)
      | (apply q5; simp at h47; constructor <;> intro hz <;> simp_all; done)
      | (by_cases hz : m.frm = 0 <;> simp [hz] at q6 h55 <;> simp_all; done)
  clear S; intro h18 S
  refine qt_y S rfl rfl rfl (fun w M => y_fieldAddr (k := 1) S (by kernel_rfl) rfl) ?_; clear S a; intro a S
  refine qt_y S rfl rfl rfl (fun w M => y_load S (by kernel_rfl) rfl (M.cell 0 rfl rfl)) ?_; clear S a; intro a S
  refine qt_y S rfl rfl rfl (fun w M => y_int S rfl rfl rfl) ?_; clear S a; intro a S
  refine qt_y S rfl rfl rfl (fun w M => y_pickF S rfl rfl) ?_; clear S a; intro a S
  refine qt_y S rfl rfl rfl (fun w M => y_move S rfl) ?_; clear S a; intro a S
  refine st_if (t := 23) S rfl ?_ ?_
  · clear S; intro h23 S
    refine qt_skip 3 S rfl ?_; clear S a; intro a S
    refine qt_y S rfl rfl rfl (fun w M => y_pickT S rfl rfl) ?_; clear S a; intro a S
    refine qt_y S rfl rfl rfl (fun w M => y_move S rfl) ?_; clear S a; intro a S
    refine qt_skip 3 S rfl ?_; clear S a; intro a S
    refine qt_y S rfl rfl rfl (fun w M => y_pickT S rfl rfl) ?_; clear S a; intro a S
    refine qt_y S rfl rfl rfl (fun w M => y_move S rfl) ?_; clear S a; intro a S
    refine qt_skip 3 S rfl ?_; clear S a; intro a S
    refine qt_y S rfl rfl rfl (fun w M => y_pickT S rfl rfl) ?_; clear S a; intro a S
    refine qt_y S rfl rfl rfl (fun w M => y_move S rfl) ?_; clear S a; intro a S
    refine qt_skip 7 S rfl ?_; clear S a; intro a S
    refine qt_y S rfl rfl rfl (fun w M => y_pickT S rfl rfl) ?_; clear S a; intro a S
    refine qt_y S rfl rfl rfl (fun w M => y_move S rfl) ?_; clear S a; intro a S
    refine qt_skip 7 S rfl ?_; clear S a; intro a S
    refine qt_y S rfl rfl rfl (fun w M => y_pickT S rfl rfl) ?_; clear S a; intro a S
    refine wpQuiet_nil ?_; clear M; intro w7 M
    replace S := S.sub [(0, _), (1, _), (2, _), (55, _)] rfl
    refine then_normal ?_
    refine st_condT S rfl ?_
    refine nxD ?_
    refine st_go [1] S rfl (by kernel_rfl) ?_; clear S a; intro a S
    refine nxC ?_
    refine wp_ret ?_
    refine then_ret ?_
    refine end_one S rfl (res_tmp rfl) ?_
    refine ⟨ret_bool (no ?_ _ rfl), M.below⟩; clear S M yes no both; rintro ⟨q1, q2, ⟨q3, q4, q5, q6⟩, -⟩
    first
      | omega
      | (rw [q2] at h18; simp at h18; done)
      | (apply q5; simp at h47; constructor <;> intro hz <;> simp_all; done)
      | (by_cases hz : m.frm = 0 <;> simp [hz] at q6 h55 <;> simp_all; done)
  clear S; intro h23 S
  refine qt_y S rfl rfl rfl (fun w M => y_fieldAddr (k := 1) S (by kernel_rfl) rfl) ?_; clear S a; intro a S
  refine qt_y S rfl rfl rfl (fun w M => y_load S (by kernel_rfl) rfl (M.cell 0 rfl rfl)) ?_; clear S a; intro a S
  refine qt_y S rfl rfl rfl (fun w M => y_int S rfl rfl rfl) ?_; clear S a; intro a S
  refine qt_y S rfl rfl rfl (fun w M => y_pickF S rfl rfl) ?_; clear S a; intro a S
  refine qt_y S rfl rfl rfl (fun w M => y_move S rfl) ?_; clear S a; intro a S
  refine st_if (t := 28) S rfl ?_ ?_
  · clear S; intro h28 S
    refine qt_skip 3 S rfl ?_; clear S a; intro a S
    refine qt_y S rfl rfl rfl (fun w M => y_pickT S rfl rfl) ?_; clear S a; intro a S
    refine qt_y S rfl rfl rfl (fun w M => y_move S rfl) ?_; clear S a; intro a S
    refine qt_skip 3 S rfl ?_; clear S a; intro a S
    refine qt_y S rfl rfl rfl (fun w M => y_pickT S rfl rfl) ?_; clear S a; intro a S
    refine qt_y S rfl rfl rfl (fun w M => y_move S rfl) ?_; clear S a; intro a S
    refine qt_skip 7 S rfl ?_; clear S a; intro a S
    refine qt_y S rfl rfl rfl (fun w M => y_pickT S rfl rfl) ?_; clear S a; intro a S
    refine qt_y S rfl rfl rfl (fun w M => y_move S rfl) ?_; clear S a; intro a S
    refine qt_skip 7 S rfl ?_; clear S a; intro a S
    refine qt_y S rfl rfl rfl (fun w M => y_pickT S rfl rfl) ?_; clear S a; intro a S
    refine wpQuiet_nil ?_; clear M; intro w8 M
    replace S := S.sub [(0, _), (1, _), (2, _), (55, _)] rfl
    refine then_normal ?_
    refine st_condT S rfl ?_
    refine nxD ?_
    refine st_go [1] S rfl (by kernel_rfl) ?_; clear S a; intro a S
    refine nxC ?_
    refine wp_ret ?_
    refine then_ret ?_
    refine end_one S rfl (res_tmp rfl) ?_
    refine ⟨ret_bool (no ?_ _ rfl), M.below⟩; clear S M yes no both; rintro ⟨q1, q2, ⟨q3, q4, q5, q6⟩, -⟩
    first
      | omega
      | (rw [q2] at h18; simp at h18; done)
      | (apply q5; simp at h47; constructor <;> intro hz <;> simp_all; done)
      | (by_cases hz : m.frm = 0 <;> simp [hz] at q6 h55 <;> simp_all; done)
  clear S; intro h28 S
  refine qt_y S rfl rfl rfl (fun w M => y_fieldAddr (k := 2) S (by kernel_rfl) rfl) ?_; clear S a; intro a S
  refine qt_y S rfl rfl rfl (fun w M => y_load S (by kernel_rfl) rfl (M.cell 0 rfl rfl)) ?_; clear S a; intro a S
  refine qt_y S rfl rfl rfl (fun w M => y_int S rfl rfl rfl) ?_; clear S a; intro a S
  refine qt_y S rfl rfl rfl (fun w M => y_pickF S rfl rfl) ?_; clear S a; intro a S
  refine qt_y S rfl rfl rfl (fun w M => y_move S rfl) ?_; clear S a; intro a S
  refine st_if (t := 33) S rfl ?_ ?_
  · clear S; intro h33 S
    refine qt_skip 3 S rfl ?_; clear S a; intro a S
    refine qt_y S rfl rfl rfl (fun w M => y_pickT S rfl rfl) ?_; clear S a; intro a S
    refine qt_y S rfl rfl rfl (fun w M => y_move S rfl) ?_; clear S a; intro a S
    refine qt_skip 7 S rfl ?_; clear S a; intro a S
    refine qt_y S rfl rfl rfl (fun w M => y_pickT S rfl rfl) ?_; clear S a; intro a S
    refine qt_y S rfl rfl rfl (fun w M => y_move S rfl) ?_; clear S a; intro a S
    refine qt_skip 7 S rfl ?_; clear S a; intro a S
    refine qt_y S rfl rfl rfl (fun w M => y_pickT S rfl rfl) ?_; clear S a; intro a S
    refine wpQuiet_nil ?_; clear M; intro w9 M
    replace S := S.sub [(0, _), (1, _), (2, _), (55, _)] rfl
    refine then_normal ?_
    refine st_condT S rfl ?_
    refine nxD ?_
    refine st_go [1] S rfl (by kernel_rfl) ?_; clear S a; intro a S
    refine nxC ?_
    refine wp_ret ?_
    refine then_ret ?_
    refine end_one S rfl (res_tmp rfl) ?_
    refine ⟨ret_bool (no ?_ _ rfl), M.below⟩; clear S M yes no both; rintro ⟨q1, q2, ⟨q3, q4, q5, q6⟩, -⟩
    first
      | omega
      | (rw [q2] at h18; simp at h18; done)
      | (apply q5; simp at h47; constructor <;> intro hz <;> simp_all; done)
      | (by_cases hz : m.frm = 0 <;> simp [hz] at q6 h55 <;> simp_all; done)
  clear S; intro h33 S
  refine qt_y S rfl rfl rfl (fun w M => y_fieldAddr (k := 2) S (by kernel_rfl) rfl) ?_; clear S a; intro a S
  refine qt_y S rfl rfl rfl (fun w M => y_load S (by kernel_rfl) rfl (M.cell 0 rfl rfl)) ?_; clear S a; intro a S
  refine qt_y S rfl rfl rfl (fun w M => y_int S rfl rfl rfl) ?_; clear S a; intro a S
  refine qt_y S rfl rfl rfl (fun w M => y_pickF S rfl rfl) ?_; clear S a; intro a S
  refine qt_y S rfl rfl rfl (fun w M => y_move S rfl) ?_; clear S a; intro a S
  refine st_if (t := 38) S rfl ?_ ?_
  · clear S; intro h38 S
    refine qt_skip 7 S rfl ?_; clear S a; intro a S
    refine qt_y S rfl rfl rfl (fun w M => y_pickT S rfl rfl) ?_; clear S a; intro a S
    refine qt_y S rfl rfl rfl (fun w M => y_move S rfl) ?_; clear S a; intro a S
    refine qt_skip 7 S rfl ?_; clear S a; intro a S
    refine qt_y S rfl rfl rfl (fun w M => y_pickT S rfl rfl) ?_; clear S a; intro a S
    refine wpQuiet_nil ?_; clear M; intro w10 M
    replace S := S.sub [(0, _), (1, _), (2, _), (55, _)] rfl
    refine then_normal ?_
    refine st_condT S rfl ?_
    refine nxD ?_
    refine st_go [1] S rfl (by kernel_rfl) ?_; clear S a; intro a S
    refine nxC ?_
    refine wp_ret ?_
    refine then_ret ?_
    refine end_one S rfl (res_tmp rfl) ?_
    refine ⟨ret_bool (no ?_ _ rfl), M.below⟩; clear S M yes no both; rintro ⟨q1, q2, ⟨q3, q4, q5, q6⟩, -⟩
    first
      | omega
      | (rw [q2] at h18; simp at h18; done)
      | (apply q5; simp at h47; constructor <;> intro hz <;> simp_all; done)
      | (by_cases hz : m.frm = 0 <;> simp [hz] at q6 h55 <;> simp_all; done)
  clear S; intro h38 S
  refine qt_y S rfl rfl rfl (fun w M => y_fieldAddr (k := 1) S (by kernel_rfl) rfl) ?_; clear S a; intro a S
  refine qt_y S rfl rfl rfl (fun w M => y_load S (by kernel_rfl) rfl (M.cell 0 rfl rfl)) ?_; clear S a; intro a S
  refine qt_y S rfl rfl rfl (fun w M => y_int S rfl rfl rfl) ?_; clear S a; intro a S
  refine qt_y S rfl rfl rfl (fun w M => y_fieldAddr (k := 2) S (by kernel_rfl) rfl) ?_; clear S a; intro a S
  refine qt_y S rfl rfl rfl (fun w M => y_load S (by kernel_rfl) rfl (M.cell 0 rfl rfl)) ?_; clear S a; intro a S
  refine qt_y S rfl rfl rfl (fun w M => y_int S rfl rfl rfl) ?_; clear S a; intro a S
  refine qt_y S rfl rfl rfl (fun w M => y_eqlBool (by kernel_rfl) S rfl rfl) ?_; clear S a; intro a S
  refine qt_y S rfl rfl rfl (fun w M => y_pickF S rfl rfl) ?_; clear S a; intro a S
  refine qt_y S rfl rfl rfl (fun w M => y_move S rfl) ?_; clear S a; intro a S
  refine st_split (t := 47) S rfl ?_ ?_
  · clear S; intro h47 S
    refine qt_skip 7 S rfl ?_; clear S a; intro a S
    refine qt_y S rfl rfl rfl (fun w M => y_pickT S rfl rfl) ?_; clear S a; intro a S
    refine wpQuiet_nil ?_; clear M; intro w11 M
    replace S := S.sub [(0, _), (1, _), (2, _), (55, _)] rfl
    refine then_normal ?_
    refine st_condT S rfl ?_
    refine nxD ?_
    refine st_go [1] S rfl (by kernel_rfl) ?_; clear S a; intro a S
    refine nxC ?_
    refine wp_ret ?_
    refine then_ret ?_
    refine end_one S rfl (res_tmp rfl) ?_
    refine ⟨ret_bool (no ?_ _ rfl), M.below⟩; clear S M yes no both; rintro ⟨q1, q2, ⟨q3, q4, q5, q6⟩, -⟩
    first
      | omega
      | (rw [q2] at h18; simp at h18; done)
      | (apply q5; simp at h47; constructor <;> intro hz <;> simp_all; done)
      | (by_cases hz : m.frm = 0 <;> simp [hz] at q6 h55 <;> simp_all; done)
  clear S; intro h47 S
  refine qt_y S rfl rfl rfl (fun w M => y_fieldAddr (k := 0) S (by kernel_rfl) rfl) ?_; clear S a; intro a S
  refine qt_y S rfl rfl rfl (fun w M => y_load S (by kernel_rfl) rfl (M.cell 0 rfl rfl)) ?_; clear S a; intro a S
  refine qt_call (xs := [(Operand.tmp 49)]) S (enters_of Try.func29 (by decide) rfl) rfl rfl rfl (quiet_of fun w M => fDown_any _ _) ?_; clear S a; intro a S
  refine qt_y S rfl rfl rfl (fun w M => y_fieldAddr (k := 1) S (by kernel_rfl) rfl) ?_; clear S a; intro a S
  refine qt_y S rfl rfl rfl (fun w M => y_load S (by kernel_rfl) rfl (M.cell 0 rfl rfl)) ?_; clear S a; intro a S
  refine qt_y S rfl rfl rfl (fun w M => y_int S rfl rfl rfl) ?_; clear S a; intro a S
  refine qt_y S rfl rfl rfl (fun w M => y_neqBool (by kernel_rfl) S rfl rfl) ?_; clear S a; intro a S
  refine qt_y S rfl rfl rfl (fun w M => y_pickF S rfl rfl) ?_; clear S a; intro a S
  refine wpQuiet_nil ?_; clear M; intro w13 M
  replace S := S.sub [(0, _), (1, _), (2, _), (55, _)] rfl
  refine then_normal ?_
  refine st_split (t := 55) S rfl ?_ ?_
  · clear S; intro h55 S
    refine st_condT S rfl ?_
    refine nxD ?_
    refine st_go [1] S rfl (by kernel_rfl) ?_; clear S a; intro a S
    refine nxC ?_
    refine wp_ret ?_
    refine then_ret ?_
    refine end_one S rfl (res_tmp rfl) ?_
    refine ⟨ret_bool (no ?_ _ rfl), M.below⟩; clear S M yes no both; rintro ⟨q1, q2, ⟨q3, q4, q5, q6⟩, -⟩
    first
      | omega
      | (rw [q2] at h18; simp at h18; done)
      | (apply q5; simp at h47; constructor <;> intro hz <;> simp_all; done)
      | (by_cases hz : m.frm = 0 <;> simp [hz] at q6 h55 <;> simp_all; done)
  clear S; intro h55 S
  refine st_condF S rfl ?_
  refine wp_skip ?_
  refine then_normal ?_
  refine wp_seq ?_
  refine nxD ?_
  refine st_run [4, 1, 1, 1] S M rfl (by kernel_rfl) ?_; clear S a; intro a S
  refine st_if (t := 59) S rfl ?_ ?_
  · clear S; intro h59 S
    refine st_go [0, 0, 0, 1, 1, 0, 0, 0, 1, 1, 0, 0, 0, 1] S rfl (by kernel_rfl) ?_; clear S a; intro a S
    replace S := S.sub [(0, _), (1, _), (2, _), (55, _), (73, _)] rfl
    refine nxC ?_
    refine st_condT S rfl ?_
    refine nxD ?_
    refine st_go [1] S rfl (by kernel_rfl) ?_; clear S a; intro a S
    refine nxC ?_
    refine wp_ret ?_
    refine then_ret ?_
    refine end_one S rfl (res_tmp rfl) ?_
    refine ⟨ret_bool (no ?_ _ rfl), M.below⟩; clear S M yes no both; rintro ⟨-, -, -, q1, q2, -⟩; omega
  clear S; intro h59 S
  refine st_run [4, 1, 1, 1, 1] S M rfl (by kernel_rfl) ?_; clear S a; intro a S
  refine st_if (t := 64) S rfl ?_ ?_
  · clear S; intro h64 S
    refine st_go [0, 0, 0, 1, 1, 0, 0, 0, 1] S rfl (by kernel_rfl) ?_; clear S a; intro a S
    replace S := S.sub [(0, _), (1, _), (2, _), (55, _), (73, _)] rfl
    refine nxC ?_
    refine st_condT S rfl ?_
    refine nxD ?_
    refine st_go [1] S rfl (by kernel_rfl) ?_; clear S a; intro a S
    refine nxC ?_
    refine wp_ret ?_
    refine then_ret ?_
    refine end_one S rfl (res_tmp rfl) ?_
    refine ⟨ret_bool (no ?_ _ rfl), M.below⟩; clear S M yes no both; rintro ⟨-, -, -, q1, q2, -⟩; omega
  clear S; intro h64 S
  refine st_run [5, 1, 1, 1, 1] S M rfl (by kernel_rfl) ?_; clear S a; intro a S
  refine st_if (t := 69) S rfl ?_ ?_
  · clear S; intro h69 S
    refine st_go [0, 0, 0, 1] S rfl (by kernel_rfl) ?_; clear S a; intro a S
    replace S := S.sub [(0, _), (1, _), (2, _), (55, _), (73, _)] rfl
    refine nxC ?_
    refine st_condT S rfl ?_
    refine nxD ?_
    refine st_go [1] S rfl (by kernel_rfl) ?_; clear S a; intro a S
    refine nxC ?_
    refine wp_ret ?_
    refine then_ret ?_
    refine end_one S rfl (res_tmp rfl) ?_
    refine ⟨ret_bool (no ?_ _ rfl), M.below⟩; clear S M yes no both; rintro ⟨-, -, -, q1, q2, -⟩; omega
  clear S; intro h69 S
  refine st_run [5, 1, 1, 1] S M rfl (by kernel_rfl) ?_; clear S a; intro a S
  replace S := S.sub [(0, _), (1, _), (2, _), (55, _), (73, _)] rfl
  refine nxC ?_
  refine st_if (t := 73) S rfl ?_ ?_
  · clear S; intro h73 S
    refine st_condT S rfl ?_
    refine nxD ?_
    refine st_go [1] S rfl (by kernel_rfl) ?_; clear S a; intro a S
    refine nxC ?_
    refine wp_ret ?_
    refine then_ret ?_
    refine end_one S rfl (res_tmp rfl) ?_
    refine ⟨ret_bool (no ?_ _ rfl), M.below⟩; clear S M yes no both; rintro ⟨-, -, -, q1, q2, -⟩; omega
  clear S; intro h73 S
  refine st_condF S rfl ?_
  refine wp_skip ?_
  refine then_normal ?_
  refine wp_seq ?_
  refine wp_seq ?_
  have hs : m.same m.flds x (fldMX m x) = true := by simpa using h18
  have hh : fHeadP m := by
    have e47 : ¬ (m.frm == 0) = (m.to == 0) := by simpa using h47
    have e55 : kdown m.kind = (m.frm == 0) := by simpa using h55
    refine ⟨by omega, by omega, fun h => e47 ?_, ?_⟩
    · rw [Bool.eq_iff_iff]; simpa using h
    · rw [e55]; simp
  have hk : 1 ≤ m.kind ∧ m.kind ≤ 11 := by omega
  have hi : (1 ≤ m.inc ∧ m.inc ≤ 1048576) ∧ (0 ≤ m.your ∧ m.your ≤ 1048576) := by omega
  have mk : ∀ b : Bool, (b = true ↔ (m.kind = 1 ∨ m.kind = 11 ∨ (m.name.named = true ∧ fKind m x = true))) → b = m.may x := fun b h => both b (by
    unfold refMayM; rw [h]; exact ⟨fun q => ⟨hk, hs, hh, hi.1, hi.2, q⟩, fun q => q.2.2.2.2.2⟩)
  clear yes no both h18 h47 h55 hs hh
  refine wp_region_lit ?_
  refine st_run [1, 1, 1, 1] S M rfl (by kernel_rfl) ?_; clear S a; intro a S
  refine st_if (t := 77) S rfl ?_ ?_
  · clear S; intro h77 S
    refine st_go [0, 0, 0, 1] S rfl (by kernel_rfl) ?_; clear S a; intro a S
    refine nxC ?_
    refine st_condT S rfl ?_
    refine nxD ?_
    refine st_go [1] S rfl (by kernel_rfl) ?_; clear S a; intro a S
    refine nxC ?_
    refine wp_ret ?_
    refine then_ret ?_
    refine end_one S rfl (res_tmp rfl) ?_
    exact ⟨ret_bool (mk _ (by simp; omega)), M.below⟩
  clear S; intro h77 S
  refine st_run [1, 1, 1, 1] S M rfl (by kernel_rfl) ?_; clear S a; intro a S
  refine nxC ?_
  refine st_if (t := 81) S rfl ?_ ?_
  · clear S; intro h81 S
    refine st_condT S rfl ?_
    refine nxD ?_
    refine st_go [1] S rfl (by kernel_rfl) ?_; clear S a; intro a S
    refine nxC ?_
    refine wp_ret ?_
    refine then_ret ?_
    refine end_one S rfl (res_tmp rfl) ?_
    exact ⟨ret_bool (mk _ (by simp; omega)), M.below⟩
  clear S; intro h81 S
  refine st_condF S rfl ?_
  refine wp_skip ?_
  refine then_normal ?_
  refine wp_seq ?_
  refine nxD ?_
  refine st_go [6] S rfl (by kernel_rfl) ?_; clear S a; intro a S
  refine st_y S rfl rfl rfl (y_loadAgg (cs := [_, _, _]) S (by kernel_rfl) rfl rfl (M.cellsAt (k := 3) 0 rfl rfl)) ?_; clear S a; intro a S
  refine st_call (xs := [(Operand.tmp 83)]) S (enters_of Try.func30 (by decide) rfl) rfl rfl rfl (rNamed_any m.name _) ?_
  rintro _ w14 ⟨rfl, hK⟩; refine ⟨_, rfl, ?_⟩; clear S a; intro a S; replace M := M.grow hK
  refine st_go [1] S rfl (by kernel_rfl) ?_; clear S a; intro a S
  refine nxC ?_
  refine st_split (t := 85) S rfl ?_ ?_
  · clear S; intro h85 S
    refine st_condT S rfl ?_
    refine nxD ?_
    refine st_go [1] S rfl (by kernel_rfl) ?_; clear S a; intro a S
    refine nxC ?_
    refine wp_ret ?_
    refine then_ret ?_
    refine end_one S rfl (res_tmp rfl) ?_
    exact ⟨ret_bool (mk _ (by simp at h85; simp [h85]; omega)), M.below⟩
  clear S; intro h85 S
  refine st_condF S rfl ?_
  refine wp_skip ?_
  refine then_normal ?_
  refine wp_seq ?_
  refine wp_seq ?_
  have hn : m.name.named = true := by simpa using h85
  have mk2 : ∀ b : Bool, b = fKind m x → b = m.may x := fun b h => mk b (by
    rw [h]
    refine ⟨fun q => .inr (.inr ⟨hn, q⟩), fun q => ?_⟩
    rcases q with q | q | q
    · omega
    · omega
    · exact q.2)
  clear mk
  refine wp_region_lit ?_
  refine st_run [1, 1] S M rfl (by kernel_rfl) ?_; clear S a; intro a S
  refine nxC ?_
  refine wp_block ?_
  refine nxD ?_
  refine st_go [1, 1] S rfl (by kernel_rfl) ?_; clear S a; intro a S
  refine nxC ?_
  refine st_if (t := 88) S rfl ?_ ?_
  · clear S; intro h88 S
    refine st_condT S rfl ?_
    refine nxD ?_
    refine st_run [9, 1, 1, 1] S M rfl (by kernel_rfl) ?_; clear S a; intro a S
    refine st_fi (t := 93) S rfl ?_ ?_
    · clear S; intro h93 S
      refine st_go [0, 0, 0, 1, 1, 0, 0, 0, 1, 1, 0, 0, 0, 1, 1, 0, 0, 0, 1, 1, 0, 0, 0, 1, 1] S rfl (by kernel_rfl) ?_; clear S a; intro a S
      replace S := S.sub [(0, _), (1, _), (55, _), (73, _), (81, _), (85, _), (87, _), (88, _), (2, _)] rfl
      refine nxC ?_
      refine wp_ret ?_
      refine block_ret ?_
      refine then_ret ?_
      refine end_one S rfl (res_tmp rfl) ?_
      refine ⟨ret_bool (mk2 _ ?_), M.below⟩; clear S M mk2; unfold fKind
      first
        | (rw [if_pos (by assumption), Bool.eq_iff_iff]; simp; done)
        | (rw [if_pos (by assumption), Bool.eq_iff_iff]; simp; omega)
        | (rw [if_neg (by omega), if_pos (by assumption), Bool.eq_iff_iff]; simp; done)
        | (rw [if_neg (by omega), if_pos (by assumption), Bool.eq_iff_iff]; simp; omega)
        | (rw [if_neg (by omega), if_neg (by omega), if_pos (by assumption)]; simp [*]; done)
        | (rw [if_neg (by omega), if_neg (by omega), if_neg (by omega), if_pos (by assumption), Bool.eq_iff_iff]; simp; done)
        | (rw [if_neg (by omega), if_neg (by omega), if_neg (by omega), if_pos (by assumption), Bool.eq_iff_iff]; simp; omega)
        | (rw [if_neg (by omega), if_neg (by omega), if_neg (by omega), if_neg (by omega)]; done)
    clear S; intro h93 S
    refine st_run [9, 1, 1, 1, 1] S M rfl (by kernel_rfl) ?_; clear S a; intro a S
    refine st_fi (t := 98) S rfl ?_ ?_
    · clear S; intro h98 S
      refine st_go [0, 0, 0, 1, 1, 0, 0, 0, 1, 1, 0, 0, 0, 1, 1, 0, 0, 0, 1, 1] S rfl (by kernel_rfl) ?_; clear S a; intro a S
      replace S := S.sub [(0, _), (1, _), (55, _), (73, _), (81, _), (85, _), (87, _), (88, _), (2, _)] rfl
      refine nxC ?_
      refine wp_ret ?_
      refine block_ret ?_
      refine then_ret ?_
      refine end_one S rfl (res_tmp rfl) ?_
      refine ⟨ret_bool (mk2 _ ?_), M.below⟩; clear S M mk2; unfold fKind
      first
        | (rw [if_pos (by assumption), Bool.eq_iff_iff]; simp; done)
        | (rw [if_pos (by assumption), Bool.eq_iff_iff]; simp; omega)
        | (rw [if_neg (by omega), if_pos (by assumption), Bool.eq_iff_iff]; simp; done)
        | (rw [if_neg (by omega), if_pos (by assumption), Bool.eq_iff_iff]; simp; omega)
        | (rw [if_neg (by omega), if_neg (by omega), if_pos (by assumption)]; simp [*]; done)
        | (rw [if_neg (by omega), if_neg (by omega), if_neg (by omega), if_pos (by assumption), Bool.eq_iff_iff]; simp; done)
        | (rw [if_neg (by omega), if_neg (by omega), if_neg (by omega), if_pos (by assumption), Bool.eq_iff_iff]; simp; omega)
        | (rw [if_neg (by omega), if_neg (by omega), if_neg (by omega), if_neg (by omega)]; done)
    clear S; intro h98 S
    refine st_run [10, 1, 1, 1, 1] S M rfl (by kernel_rfl) ?_; clear S a; intro a S
    refine st_fi (t := 103) S rfl ?_ ?_
    · clear S; intro h103 S
      refine st_go [0, 0, 0, 1, 1, 0, 0, 0, 1, 1, 0, 0, 0, 1, 1] S rfl (by kernel_rfl) ?_; clear S a; intro a S
      replace S := S.sub [(0, _), (1, _), (55, _), (73, _), (81, _), (85, _), (87, _), (88, _), (2, _)] rfl
      refine nxC ?_
      refine wp_ret ?_
      refine block_ret ?_
      refine then_ret ?_
      refine end_one S rfl (res_tmp rfl) ?_
      refine ⟨ret_bool (mk2 _ ?_), M.below⟩; clear S M mk2; unfold fKind
      first
        | (rw [if_pos (by assumption), Bool.eq_iff_iff]; simp; done)
        | (rw [if_pos (by assumption), Bool.eq_iff_iff]; simp; omega)
        | (rw [if_neg (by omega), if_pos (by assumption), Bool.eq_iff_iff]; simp; done)
        | (rw [if_neg (by omega), if_pos (by assumption), Bool.eq_iff_iff]; simp; omega)
        | (rw [if_neg (by omega), if_neg (by omega), if_pos (by assumption)]; simp [*]; done)
        | (rw [if_neg (by omega), if_neg (by omega), if_neg (by omega), if_pos (by assumption), Bool.eq_iff_iff]; simp; done)
        | (rw [if_neg (by omega), if_neg (by omega), if_neg (by omega), if_pos (by assumption), Bool.eq_iff_iff]; simp; omega)
        | (rw [if_neg (by omega), if_neg (by omega), if_neg (by omega), if_neg (by omega)]; done)
    clear S; intro h103 S
    refine st_run [10, 1, 1, 1, 1] S M rfl (by kernel_rfl) ?_; clear S a; intro a S
    refine st_fi (t := 108) S rfl ?_ ?_
    · clear S; intro h108 S
      refine st_go [0, 0, 0, 1, 1, 0, 0, 0, 1, 1] S rfl (by kernel_rfl) ?_; clear S a; intro a S
      replace S := S.sub [(0, _), (1, _), (55, _), (73, _), (81, _), (85, _), (87, _), (88, _), (2, _)] rfl
      refine nxC ?_
      refine wp_ret ?_
      refine block_ret ?_
      refine then_ret ?_
      refine end_one S rfl (res_tmp rfl) ?_
      refine ⟨ret_bool (mk2 _ ?_), M.below⟩; clear S M mk2; unfold fKind
      first
        | (rw [if_pos (by assumption), Bool.eq_iff_iff]; simp; done)
        | (rw [if_pos (by assumption), Bool.eq_iff_iff]; simp; omega)
        | (rw [if_neg (by omega), if_pos (by assumption), Bool.eq_iff_iff]; simp; done)
        | (rw [if_neg (by omega), if_pos (by assumption), Bool.eq_iff_iff]; simp; omega)
        | (rw [if_neg (by omega), if_neg (by omega), if_pos (by assumption)]; simp [*]; done)
        | (rw [if_neg (by omega), if_neg (by omega), if_neg (by omega), if_pos (by assumption), Bool.eq_iff_iff]; simp; done)
        | (rw [if_neg (by omega), if_neg (by omega), if_neg (by omega), if_pos (by assumption), Bool.eq_iff_iff]; simp; omega)
        | (rw [if_neg (by omega), if_neg (by omega), if_neg (by omega), if_neg (by omega)]; done)
    clear S; intro h108 S
    refine st_run [11, 1, 1, 1, 1] S M rfl (by kernel_rfl) ?_; clear S a; intro a S
    refine st_fi (t := 113) S rfl ?_ ?_
    · clear S; intro h113 S
      refine st_go [0, 0, 0, 1, 1] S rfl (by kernel_rfl) ?_; clear S a; intro a S
      replace S := S.sub [(0, _), (1, _), (55, _), (73, _), (81, _), (85, _), (87, _), (88, _), (2, _)] rfl
      refine nxC ?_
      refine wp_ret ?_
      refine block_ret ?_
      refine then_ret ?_
      refine end_one S rfl (res_tmp rfl) ?_
      refine ⟨ret_bool (mk2 _ ?_), M.below⟩; clear S M mk2; unfold fKind
      first
        | (rw [if_pos (by assumption), Bool.eq_iff_iff]; simp; done)
        | (rw [if_pos (by assumption), Bool.eq_iff_iff]; simp; omega)
        | (rw [if_neg (by omega), if_pos (by assumption), Bool.eq_iff_iff]; simp; done)
        | (rw [if_neg (by omega), if_pos (by assumption), Bool.eq_iff_iff]; simp; omega)
        | (rw [if_neg (by omega), if_neg (by omega), if_pos (by assumption)]; simp [*]; done)
        | (rw [if_neg (by omega), if_neg (by omega), if_neg (by omega), if_pos (by assumption), Bool.eq_iff_iff]; simp; done)
        | (rw [if_neg (by omega), if_neg (by omega), if_neg (by omega), if_pos (by assumption), Bool.eq_iff_iff]; simp; omega)
        | (rw [if_neg (by omega), if_neg (by omega), if_neg (by omega), if_neg (by omega)]; done)
    clear S; intro h113 S
    refine st_run [11, 1, 1, 1, 1] S M rfl (by kernel_rfl) ?_; clear S a; intro a S
    replace S := S.sub [(0, _), (1, _), (55, _), (73, _), (81, _), (85, _), (87, _), (88, _), (2, _)] rfl
    refine nxC ?_
    refine wp_ret ?_
    refine block_ret ?_
    refine then_ret ?_
    refine end_one S rfl (res_tmp rfl) ?_
    refine ⟨ret_bool (mk2 _ ?_), M.below⟩; clear S M mk2; unfold fKind
    first
      | (rw [if_pos (by assumption), Bool.eq_iff_iff]; simp; done)
      | (rw [if_pos (by assumption), Bool.eq_iff_iff]; simp; omega)
      | (rw [if_neg (by omega), if_pos (by assumption), Bool.eq_iff_iff]; simp; done)
      | (rw [if_neg (by omega), if_pos (by assumption), Bool.eq_iff_iff]; simp; omega)
      | (rw [if_neg (by omega), if_neg (by omega), if_pos (by assumption)]; simp [*]; done)
      | (rw [if_neg (by omega), if_neg (by omega), if_neg (by omega), if_pos (by assumption), Bool.eq_iff_iff]; simp; done)
      | (rw [if_neg (by omega), if_neg (by omega), if_neg (by omega), if_pos (by assumption), Bool.eq_iff_iff]; simp; omega)
      | (rw [if_neg (by omega), if_neg (by omega), if_neg (by omega), if_neg (by omega)]; done)
  clear S; intro h88 S
  refine st_condF S rfl ?_
  refine nxD ?_
  refine st_go [1, 1] S rfl (by kernel_rfl) ?_; clear S a; intro a S
  refine nxC ?_
  refine st_fi (t := 118) S rfl ?_ ?_
  · clear S; intro h118 S
    refine st_condF S rfl ?_
    refine nxD ?_
    refine st_go [1, 1] S rfl (by kernel_rfl) ?_; clear S a; intro a S
    replace S := S.sub [(0, _), (1, _), (2, _), (55, _), (73, _), (81, _), (85, _), (87, _), (88, _), (118, _), (153, _)] rfl
    refine nxC ?_
    refine st_if (t := 153) S rfl ?_ ?_
    · clear S; intro h153 S
      refine st_condT S rfl ?_
      refine nxD ?_
      refine st_run [22, 1, 23, 1] S M rfl (by kernel_rfl) ?_; clear S a; intro a S
      refine st_call (xs := [(Operand.tmp 156), (Operand.tmp 158)]) S (enters_of Try.func31 (by decide) rfl) rfl rfl rfl (given_any _ _ _) ?_
      rintro _ w15 ⟨rfl, hK⟩; refine ⟨_, rfl, ?_⟩; clear S a; intro a S; replace M := M.grow hK
      refine st_go [1] S rfl (by kernel_rfl) ?_; clear S a; intro a S
      refine st_tils (t := 160) S rfl ?_ ?_
      · clear S; intro h160 S
        refine st_go [0, 0, 0, 1, 1] S rfl (by kernel_rfl) ?_; clear S a; intro a S
        refine nxC ?_
        refine wp_ret ?_
        refine block_ret ?_
        refine then_ret ?_
        refine end_one S rfl (res_tmp rfl) ?_
        refine ⟨ret_bool (mk2 _ ?_), M.below⟩; clear S M mk2; unfold fKind
        first
          | (rw [if_pos (by assumption), Bool.eq_iff_iff]; simp; done)
          | (rw [if_pos (by assumption), Bool.eq_iff_iff]; simp; omega)
          | (rw [if_neg (by omega), if_pos (by assumption), Bool.eq_iff_iff]; simp; done)
          | (rw [if_neg (by omega), if_pos (by assumption), Bool.eq_iff_iff]; simp; omega)
          | (rw [if_neg (by omega), if_neg (by omega), if_pos (by assumption)]; simp [*]; done)
          | (rw [if_neg (by omega), if_neg (by omega), if_neg (by omega), if_pos (by assumption), Bool.eq_iff_iff]; simp; done)
          | (rw [if_neg (by omega), if_neg (by omega), if_neg (by omega), if_pos (by assumption), Bool.eq_iff_iff]; simp; omega)
          | (rw [if_neg (by omega), if_neg (by omega), if_neg (by omega), if_neg (by omega)]; done)
      clear S; intro h160 S
      refine st_run [24, 1] S M rfl (by kernel_rfl) ?_; clear S a; intro a S
      refine st_call (xs := [(Operand.tmp 162)]) S (enters_of Try.func32 (by decide) rfl) rfl rfl rfl (rWritten_any _ x _ (M.argW hv)) ?_
      rintro _ w16 ⟨rfl, hK⟩; refine ⟨_, rfl, ?_⟩; clear S a; intro a S; replace M := M.grow hK
      refine st_go [1, 1] S rfl (by kernel_rfl) ?_; clear S a; intro a S
      refine nxC ?_
      refine wp_ret ?_
      refine block_ret ?_
      refine then_ret ?_
      refine end_one S rfl (res_tmp rfl) ?_
      refine ⟨ret_bool (mk2 _ ?_), M.below⟩; clear S M mk2; unfold fKind
      first
        | (rw [if_pos (by assumption), Bool.eq_iff_iff]; simp; done)
        | (rw [if_pos (by assumption), Bool.eq_iff_iff]; simp; omega)
        | (rw [if_neg (by omega), if_pos (by assumption), Bool.eq_iff_iff]; simp; done)
        | (rw [if_neg (by omega), if_pos (by assumption), Bool.eq_iff_iff]; simp; omega)
        | (rw [if_neg (by omega), if_neg (by omega), if_pos (by assumption)]; simp [*]; done)
        | (rw [if_neg (by omega), if_neg (by omega), if_neg (by omega), if_pos (by assumption), Bool.eq_iff_iff]; simp; done)
        | (rw [if_neg (by omega), if_neg (by omega), if_neg (by omega), if_pos (by assumption), Bool.eq_iff_iff]; simp; omega)
        | (rw [if_neg (by omega), if_neg (by omega), if_neg (by omega), if_neg (by omega)]; done)
    clear S; intro h153 S
    refine st_condF S rfl ?_
    refine nxD ?_
    refine st_go [1, 1] S rfl (by kernel_rfl) ?_; clear S a; intro a S
    refine nxC ?_
    refine st_fi (t := 165) S rfl ?_ ?_
    · clear S; intro h165 S
      refine st_condF S rfl ?_
      refine wp_skip ?_
      refine block_normal ?_
      refine nxE ?_
      refine st_go [1] S rfl (by kernel_rfl) ?_; clear S a; intro a S
      refine nxC ?_
      refine wp_ret ?_
      refine end_one S rfl (res_tmp rfl) ?_
      refine ⟨ret_bool (mk2 _ ?_), M.below⟩; clear S M mk2; unfold fKind
      first
        | (rw [if_pos (by assumption), Bool.eq_iff_iff]; simp; done)
        | (rw [if_pos (by assumption), Bool.eq_iff_iff]; simp; omega)
        | (rw [if_neg (by omega), if_pos (by assumption), Bool.eq_iff_iff]; simp; done)
        | (rw [if_neg (by omega), if_pos (by assumption), Bool.eq_iff_iff]; simp; omega)
        | (rw [if_neg (by omega), if_neg (by omega), if_pos (by assumption)]; simp [*]; done)
        | (rw [if_neg (by omega), if_neg (by omega), if_neg (by omega), if_pos (by assumption), Bool.eq_iff_iff]; simp; done)
        | (rw [if_neg (by omega), if_neg (by omega), if_neg (by omega), if_pos (by assumption), Bool.eq_iff_iff]; simp; omega)
        | (rw [if_neg (by omega), if_neg (by omega), if_neg (by omega), if_neg (by omega)]; done)
    clear S; intro h165 S
    refine st_condT S rfl ?_
    refine nxD ?_
    refine st_run [20, 1, 1, 1] S M rfl (by kernel_rfl) ?_; clear S a; intro a S
    refine st_if (t := 170) S rfl ?_ ?_
    · clear S; intro h170 S
      refine st_go [0, 0, 0, 1, 1, 0, 0, 0, 1, 1] S rfl (by kernel_rfl) ?_; clear S a; intro a S
      replace S := S.sub [(0, _), (1, _), (55, _), (73, _), (81, _), (85, _), (87, _), (88, _), (118, _), (153, _), (165, _), (2, _)] rfl
      refine nxC ?_
      refine wp_ret ?_
      refine block_ret ?_
      refine then_ret ?_
      refine end_one S rfl (res_tmp rfl) ?_
      refine ⟨ret_bool (mk2 _ ?_), M.below⟩; clear S M mk2; unfold fKind
      first
        | (rw [if_pos (by assumption), Bool.eq_iff_iff]; simp; done)
        | (rw [if_pos (by assumption), Bool.eq_iff_iff]; simp; omega)
        | (rw [if_neg (by omega), if_pos (by assumption), Bool.eq_iff_iff]; simp; done)
        | (rw [if_neg (by omega), if_pos (by assumption), Bool.eq_iff_iff]; simp; omega)
        | (rw [if_neg (by omega), if_neg (by omega), if_pos (by assumption)]; simp [*]; done)
        | (rw [if_neg (by omega), if_neg (by omega), if_neg (by omega), if_pos (by assumption), Bool.eq_iff_iff]; simp; done)
        | (rw [if_neg (by omega), if_neg (by omega), if_neg (by omega), if_pos (by assumption), Bool.eq_iff_iff]; simp; omega)
        | (rw [if_neg (by omega), if_neg (by omega), if_neg (by omega), if_neg (by omega)]; done)
    clear S; intro h170 S
    refine st_run [20, 1, 1, 1, 1] S M rfl (by kernel_rfl) ?_; clear S a; intro a S
    refine st_if (t := 175) S rfl ?_ ?_
    · clear S; intro h175 S
      refine st_go [0, 0, 0, 1, 1] S rfl (by kernel_rfl) ?_; clear S a; intro a S
      replace S := S.sub [(0, _), (1, _), (55, _), (73, _), (81, _), (85, _), (87, _), (88, _), (118, _), (153, _), (165, _), (2, _)] rfl
      refine nxC ?_
      refine wp_ret ?_
      refine block_ret ?_
      refine then_ret ?_
      refine end_one S rfl (res_tmp rfl) ?_
      refine ⟨ret_bool (mk2 _ ?_), M.below⟩; clear S M mk2; unfold fKind
      first
        | (rw [if_pos (by assumption), Bool.eq_iff_iff]; simp; done)
        | (rw [if_pos (by assumption), Bool.eq_iff_iff]; simp; omega)
        | (rw [if_neg (by omega), if_pos (by assumption), Bool.eq_iff_iff]; simp; done)
        | (rw [if_neg (by omega), if_pos (by assumption), Bool.eq_iff_iff]; simp; omega)
        | (rw [if_neg (by omega), if_neg (by omega), if_pos (by assumption)]; simp [*]; done)
        | (rw [if_neg (by omega), if_neg (by omega), if_neg (by omega), if_pos (by assumption), Bool.eq_iff_iff]; simp; done)
        | (rw [if_neg (by omega), if_neg (by omega), if_neg (by omega), if_pos (by assumption), Bool.eq_iff_iff]; simp; omega)
        | (rw [if_neg (by omega), if_neg (by omega), if_neg (by omega), if_neg (by omega)]; done)
    clear S; intro h175 S
    refine st_run [20, 1, 1, 1, 1] S M rfl (by kernel_rfl) ?_; clear S a; intro a S
    replace S := S.sub [(0, _), (1, _), (55, _), (73, _), (81, _), (85, _), (87, _), (88, _), (118, _), (153, _), (165, _), (2, _)] rfl
    refine nxC ?_
    refine wp_ret ?_
    refine block_ret ?_
    refine then_ret ?_
    refine end_one S rfl (res_tmp rfl) ?_
    refine ⟨ret_bool (mk2 _ ?_), M.below⟩; clear S M mk2; unfold fKind
    first
      | (rw [if_pos (by assumption), Bool.eq_iff_iff]; simp; done)
      | (rw [if_pos (by assumption), Bool.eq_iff_iff]; simp; omega)
      | (rw [if_neg (by omega), if_pos (by assumption), Bool.eq_iff_iff]; simp; done)
      | (rw [if_neg (by omega), if_pos (by assumption), Bool.eq_iff_iff]; simp; omega)
      | (rw [if_neg (by omega), if_neg (by omega), if_pos (by assumption)]; simp [*]; done)
      | (rw [if_neg (by omega), if_neg (by omega), if_neg (by omega), if_pos (by assumption), Bool.eq_iff_iff]; simp; done)
      | (rw [if_neg (by omega), if_neg (by omega), if_neg (by omega), if_pos (by assumption), Bool.eq_iff_iff]; simp; omega)
      | (rw [if_neg (by omega), if_neg (by omega), if_neg (by omega), if_neg (by omega)]; done)
  clear S; intro h118 S
  refine st_condT S rfl ?_
  refine nxD ?_
  refine st_run [9, 1, 1, 1] S M rfl (by kernel_rfl) ?_; clear S a; intro a S
  refine st_fi (t := 123) S rfl ?_ ?_
  · clear S; intro h123 S
    refine st_go [0, 0, 0, 1, 1, 0, 0, 0, 0, 0, 0, 0, 0, 0, 0, 0, 0, 0, 0, 0, 0, 0, 0, 0, 0, 0, 0, 0, 1, 1] S rfl (by kernel_rfl) ?_; clear S a; intro a S
    replace S := S.sub [(0, _), (1, _), (55, _), (73, _), (81, _), (85, _), (87, _), (88, _), (118, _), (2, _)] rfl
    refine nxC ?_
    refine wp_ret ?_
    refine block_ret ?_
    refine then_ret ?_
    refine end_one S rfl (res_tmp rfl) ?_
    refine ⟨ret_bool (mk2 _ ?_), M.below⟩; clear S M mk2; unfold fKind
    first
      | (rw [if_pos (by assumption), Bool.eq_iff_iff]; simp; done)
      | (rw [if_pos (by assumption), Bool.eq_iff_iff]; simp; omega)
      | (rw [if_neg (by omega), if_pos (by assumption), Bool.eq_iff_iff]; simp; done)
      | (rw [if_neg (by omega), if_pos (by assumption), Bool.eq_iff_iff]; simp; omega)
      | (rw [if_neg (by omega), if_neg (by omega), if_pos (by assumption)]; simp [*]; done)
      | (rw [if_neg (by omega), if_neg (by omega), if_neg (by omega), if_pos (by assumption), Bool.eq_iff_iff]; simp; done)
      | (rw [if_neg (by omega), if_neg (by omega), if_neg (by omega), if_pos (by assumption), Bool.eq_iff_iff]; simp; omega)
      | (rw [if_neg (by omega), if_neg (by omega), if_neg (by omega), if_neg (by omega)]; done)
  clear S; intro h123 S
  refine st_run [9, 1, 1, 1, 1] S M rfl (by kernel_rfl) ?_; clear S a; intro a S
  refine st_fi (t := 128) S rfl ?_ ?_
  · clear S; intro h128 S
    refine st_go [0, 0, 0, 0, 0, 0, 0, 0, 0, 0, 0, 0, 0, 0, 0, 0, 0, 0, 0, 0, 0, 0, 0, 1, 1] S rfl (by kernel_rfl) ?_; clear S a; intro a S
    replace S := S.sub [(0, _), (1, _), (55, _), (73, _), (81, _), (85, _), (87, _), (88, _), (118, _), (2, _)] rfl
    refine nxC ?_
    refine wp_ret ?_
    refine block_ret ?_
    refine then_ret ?_
    refine end_one S rfl (res_tmp rfl) ?_
    refine ⟨ret_bool (mk2 _ ?_), M.below⟩; clear S M mk2; unfold fKind
    first
      | (rw [if_pos (by assumption), Bool.eq_iff_iff]; simp; done)
      | (rw [if_pos (by assumption), Bool.eq_iff_iff]; simp; omega)
      | (rw [if_neg (by omega), if_pos (by assumption), Bool.eq_iff_iff]; simp; done)
      | (rw [if_neg (by omega), if_pos (by assumption), Bool.eq_iff_iff]; simp; omega)
      | (rw [if_neg (by omega), if_neg (by omega), if_pos (by assumption)]; simp [*]; done)
      | (rw [if_neg (by omega), if_neg (by omega), if_neg (by omega), if_pos (by assumption), Bool.eq_iff_iff]; simp; done)
      | (rw [if_neg (by omega), if_neg (by omega), if_neg (by omega), if_pos (by assumption), Bool.eq_iff_iff]; simp; omega)
      | (rw [if_neg (by omega), if_neg (by omega), if_neg (by omega), if_neg (by omega)]; done)
  clear S; intro h128 S
  refine st_run [20, 1, 1, 1] S M rfl (by kernel_rfl) ?_; clear S a; intro a S
  refine st_if (t := 132) S rfl ?_ ?_
  · clear S; intro h132 S
    refine st_go [0, 0, 0, 1, 1, 0, 0, 0, 1, 1, 0, 0, 0, 1, 1, 0, 0, 0, 1, 1, 1] S rfl (by kernel_rfl) ?_; clear S a; intro a S
    replace S := S.sub [(0, _), (1, _), (55, _), (73, _), (81, _), (85, _), (87, _), (88, _), (118, _), (2, _)] rfl
    refine nxC ?_
    refine wp_ret ?_
    refine block_ret ?_
    refine then_ret ?_
    refine end_one S rfl (res_tmp rfl) ?_
    refine ⟨ret_bool (mk2 _ ?_), M.below⟩; clear S M mk2; unfold fKind
    first
      | (rw [if_pos (by assumption), Bool.eq_iff_iff]; simp; done)
      | (rw [if_pos (by assumption), Bool.eq_iff_iff]; simp; omega)
      | (rw [if_neg (by omega), if_pos (by assumption), Bool.eq_iff_iff]; simp; done)
      | (rw [if_neg (by omega), if_pos (by assumption), Bool.eq_iff_iff]; simp; omega)
      | (rw [if_neg (by omega), if_neg (by omega), if_pos (by assumption)]; simp [*]; done)
      | (rw [if_neg (by omega), if_neg (by omega), if_neg (by omega), if_pos (by assumption), Bool.eq_iff_iff]; simp; done)
      | (rw [if_neg (by omega), if_neg (by omega), if_neg (by omega), if_pos (by assumption), Bool.eq_iff_iff]; simp; omega)
      | (rw [if_neg (by omega), if_neg (by omega), if_neg (by omega), if_neg (by omega)]; done)
  clear S; intro h132 S
  refine st_run [20, 1, 1, 1, 1] S M rfl (by kernel_rfl) ?_; clear S a; intro a S
  refine st_if (t := 137) S rfl ?_ ?_
  · clear S; intro h137 S
    refine st_go [0, 0, 0, 1, 1, 0, 0, 0, 1, 1, 0, 0, 0, 1, 1, 1] S rfl (by kernel_rfl) ?_; clear S a; intro a S
    replace S := S.sub [(0, _), (1, _), (55, _), (73, _), (81, _), (85, _), (87, _), (88, _), (118, _), (2, _)] rfl
    refine nxC ?_
    refine wp_ret ?_
    refine block_ret ?_
    refine then_ret ?_
    refine end_one S rfl (res_tmp rfl) ?_
    refine ⟨ret_bool (mk2 _ ?_), M.below⟩; clear S M mk2; unfold fKind
    first
      | (rw [if_pos (by assumption), Bool.eq_iff_iff]; simp; done)
      | (rw [if_pos (by assumption), Bool.eq_iff_iff]; simp; omega)
      | (rw [if_neg (by omega), if_pos (by assumption), Bool.eq_iff_iff]; simp; done)
      | (rw [if_neg (by omega), if_pos (by assumption), Bool.eq_iff_iff]; simp; omega)
      | (rw [if_neg (by omega), if_neg (by omega), if_pos (by assumption)]; simp [*]; done)
      | (rw [if_neg (by omega), if_neg (by omega), if_neg (by omega), if_pos (by assumption), Bool.eq_iff_iff]; simp; done)
      | (rw [if_neg (by omega), if_neg (by omega), if_neg (by omega), if_pos (by assumption), Bool.eq_iff_iff]; simp; omega)
      | (rw [if_neg (by omega), if_neg (by omega), if_neg (by omega), if_neg (by omega)]; done)
  clear S; intro h137 S
  refine st_run [20, 1, 1, 1, 1] S M rfl (by kernel_rfl) ?_; clear S a; intro a S
  refine st_if (t := 142) S rfl ?_ ?_
  · clear S; intro h142 S
    refine st_go [0, 0, 0, 1, 1, 0, 0, 0, 1, 1, 1] S rfl (by kernel_rfl) ?_; clear S a; intro a S
    replace S := S.sub [(0, _), (1, _), (55, _), (73, _), (81, _), (85, _), (87, _), (88, _), (118, _), (2, _)] rfl
    refine nxC ?_
    refine wp_ret ?_
    refine block_ret ?_
    refine then_ret ?_
    refine end_one S rfl (res_tmp rfl) ?_
    refine ⟨ret_bool (mk2 _ ?_), M.below⟩; clear S M mk2; unfold fKind
    first
      | (rw [if_pos (by assumption), Bool.eq_iff_iff]; simp; done)
      | (rw [if_pos (by assumption), Bool.eq_iff_iff]; simp; omega)
      | (rw [if_neg (by omega), if_pos (by assumption), Bool.eq_iff_iff]; simp; done)
      | (rw [if_neg (by omega), if_pos (by assumption), Bool.eq_iff_iff]; simp; omega)
      | (rw [if_neg (by omega), if_neg (by omega), if_pos (by assumption)]; simp [*]; done)
      | (rw [if_neg (by omega), if_neg (by omega), if_neg (by omega), if_pos (by assumption), Bool.eq_iff_iff]; simp; done)
      | (rw [if_neg (by omega), if_neg (by omega), if_neg (by omega), if_pos (by assumption), Bool.eq_iff_iff]; simp; omega)
      | (rw [if_neg (by omega), if_neg (by omega), if_neg (by omega), if_neg (by omega)]; done)
  clear S; intro h142 S
  refine st_run [20, 1, 1, 1, 1] S M rfl (by kernel_rfl) ?_; clear S a; intro a S
  refine st_if (t := 147) S rfl ?_ ?_
  · clear S; intro h147 S
    refine st_go [0, 0, 0, 1, 1, 1] S rfl (by kernel_rfl) ?_; clear S a; intro a S
    replace S := S.sub [(0, _), (1, _), (55, _), (73, _), (81, _), (85, _), (87, _), (88, _), (118, _), (2, _)] rfl
    refine nxC ?_
    refine wp_ret ?_
    refine block_ret ?_
    refine then_ret ?_
    refine end_one S rfl (res_tmp rfl) ?_
    refine ⟨ret_bool (mk2 _ ?_), M.below⟩; clear S M mk2; unfold fKind
    first
      | (rw [if_pos (by assumption), Bool.eq_iff_iff]; simp; done)
      | (rw [if_pos (by assumption), Bool.eq_iff_iff]; simp; omega)
      | (rw [if_neg (by omega), if_pos (by assumption), Bool.eq_iff_iff]; simp; done)
      | (rw [if_neg (by omega), if_pos (by assumption), Bool.eq_iff_iff]; simp; omega)
      | (rw [if_neg (by omega), if_neg (by omega), if_pos (by assumption)]; simp [*]; done)
      | (rw [if_neg (by omega), if_neg (by omega), if_neg (by omega), if_pos (by assumption), Bool.eq_iff_iff]; simp; done)
      | (rw [if_neg (by omega), if_neg (by omega), if_neg (by omega), if_pos (by assumption), Bool.eq_iff_iff]; simp; omega)
      | (rw [if_neg (by omega), if_neg (by omega), if_neg (by omega), if_neg (by omega)]; done)
  clear S; intro h147 S
  refine st_run [20, 1, 1, 1, 1, 1] S M rfl (by kernel_rfl) ?_; clear S a; intro a S
  replace S := S.sub [(0, _), (1, _), (55, _), (73, _), (81, _), (85, _), (87, _), (88, _), (118, _), (2, _)] rfl
  refine nxC ?_
  refine wp_ret ?_
  refine block_ret ?_
  refine then_ret ?_
  refine end_one S rfl (res_tmp rfl) ?_
  refine ⟨ret_bool (mk2 _ ?_), M.below⟩; clear S M mk2; unfold fKind
  first
    | (rw [if_pos (by assumption), Bool.eq_iff_iff]; simp; done)
    | (rw [if_pos (by assumption), Bool.eq_iff_iff]; simp; omega)
    | (rw [if_neg (by omega), if_pos (by assumption), Bool.eq_iff_iff]; simp; done)
    | (rw [if_neg (by omega), if_pos (by assumption), Bool.eq_iff_iff]; simp; omega)
    | (rw [if_neg (by omega), if_neg (by omega), if_pos (by assumption)]; simp [*]; done)
    | (rw [if_neg (by omega), if_neg (by omega), if_neg (by omega), if_pos (by assumption), Bool.eq_iff_iff]; simp; done)
    | (rw [if_neg (by omega), if_neg (by omega), if_neg (by omega), if_pos (by assumption), Bool.eq_iff_iff]; simp; omega)
    | (rw [if_neg (by omega), if_neg (by omega), if_neg (by omega), if_neg (by omega)]; done)

end Go.Proofs.Ytidpeojkkfmgeaa
