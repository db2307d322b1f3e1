/-
  The document's layer 15: May.
-/
import Derived.Test.YtdcihmdchabcnaaFa
namespace Go.Proofs.Ytdcihmdchabcnaa
open Go.RowKit Go.Sort

def fKind (m : Msg) (x : List Wr) : Bool :=
  if m.kind = 2 then decide ((1 ≤ m.n ∧ m.n ≤ 1048576) ∧ (0 ≤ m.op ∧ m.op ≤ 2) ∧ (0 ≤ m.block ∧ m.block < 32))
  else if m.kind = 3 then decide ((1 ≤ m.n ∧ m.n ≤ 1048576) ∧ (m.e = 0 ∨ m.e = 120 ∨ m.e = 112 ∨ m.e = 121 ∨ m.e = 50))
  else if m.kind = 4 then givenB m.give m.take && writtenB x
  else if m.kind = 10 then decide (m.e = 0 ∨ m.e = 50 ∨ m.e = 121)
  else true
def fHeadP (m : Msg) : Prop := (0 ≤ m.frm ∧ m.frm ≤ 4) ∧ (0 ≤ m.to ∧ m.to ≤ 4) ∧ ¬ ((m.frm = 0) ↔ (m.to = 0)) ∧ (kdown m.kind = true ↔ m.frm = 0)
def refMayM (m : Msg) (x : List Wr) : Prop :=
  (1 ≤ m.kind ∧ m.kind ≤ 11) ∧ m.same m.flds x (fldMX m x) = true ∧ fHeadP m ∧ (1 ≤ m.inc ∧ m.inc ≤ 1048576) ∧ (0 ≤ m.your ∧ m.your ≤ 1048576) ∧ (m.kind = 1 ∨ m.kind = 11 ∨ (m.name.named = true ∧ fKind m x = true))
theorem head_iff {m : Msg} : fHeadP m ↔ betweenB m.frm m.to (kdown m.kind) = true := by
  unfold fHeadP betweenB
  cases kdown m.kind <;> simp <;> omega
theorem may2 (nm : Nm) (g t : Int) (x : List Wr) : Rc.may ⟨2, nm, false, g, t, 0, 0, 0, 0⟩ x = (nm.named && (givenB g t && writtenB x)) := by
  have e : Rc.may ⟨2, nm, false, g, t, 0, 0, 0, 0⟩ x = (nm.named && writtenB x && bitsB g && bitsB t && andV g t == 0) := by
    unfold Rc.may Rc.ok Rc.rest
    have : (Rc.same ⟨2, ⟨0, 0, 0⟩, false, 0, 0, 0, 0, 0, 0⟩ ⟨2, ⟨0, 0, 0⟩, false, 0, 0, 0, 0, 0, 0⟩ [] []) = true := Rc.same_iff.2 ⟨rfl, rfl⟩
    simp [this]
  rw [e]; unfold givenB
  cases nm.named <;> cases writtenB x <;> cases bitsB g <;> cases bitsB t <;> cases (andV g t == 0) <;> rfl
set_option maxHeartbeats 4000000 in
theorem mayM_ref (m : Msg) (x : List Wr) : m.may x = true ↔ refMayM m x := by
  unfold refMayM
  rw [head_iff]
  unfold Msg.may
  have h8 : ∀ v : V8, v.zero = true ↔ v = ⟨0, 0, 0, 0, 0, 0, 0, 0⟩ := fun v => V8.eqb_iff
  by_cases hk : 1 ≤ m.kind ∧ m.kind ≤ 11
  · have hc : m.kind = 1 ∨ m.kind = 2 ∨ m.kind = 3 ∨ m.kind = 4 ∨ m.kind = 5 ∨ m.kind = 6 ∨ m.kind = 7 ∨ m.kind = 8 ∨ m.kind = 9 ∨ m.kind = 10 ∨ m.kind = 11 := by omega
    by_cases hb : betweenB m.frm m.to (kdown m.kind) = true
    · by_cases hi : (1 ≤ m.inc ∧ m.inc ≤ 1048576) ∧ (0 ≤ m.your ∧ m.your ≤ 1048576)
      · rw [if_pos ⟨hk.1, hk.2, hb, hi.1.1, hi.1.2, hi.2.1, hi.2.2⟩, Bool.and_eq_true, Msg.same_iff, Msg.same_iff]
        simp only [hk, hb, hi, and_self, true_and, and_true]
        obtain ⟨kind, frm, to, inc, your, name, n, op, block, val, e, yes, give, take⟩ := m
        simp only at hc
        rcases hc with rfl | rfl | rfl | rfl | rfl | rfl | rfl | rfl | rfl | rfl | rfl
        all_goals
          simp [bareM, bareX, khas, kfields, Msg.flds, fldMX, fitB, fitHead, fitKind, fKind, withinB, may2, h8]
        · constructor
          · rintro ⟨⟨⟨a1, a2, a3, a4⟩, ax⟩, ⟨b1, b2⟩, ⟨c1, c2, c3, c4⟩, d⟩
            exact ⟨⟨⟨fun hn => d.resolve_left hn, a1, a2, a3, a4⟩, ax⟩, b1, b2, ⟨c1, c2⟩, c3, c4⟩
          · rintro ⟨⟨⟨d, a1, a2, a3, a4⟩, ax⟩, b1, b2, ⟨c1, c2⟩, c3, c4⟩
            exact ⟨⟨⟨a1, a2, a3, a4⟩, ax⟩, ⟨b1, b2⟩, ⟨c1, c2, c3, c4⟩, (Decidable.em (op = 1)).imp_right d⟩
        · constructor
          · rintro ⟨⟨⟨a1, a2, a3, a4, a5⟩, ax⟩, ⟨b1, b2⟩, d⟩
            refine ⟨⟨⟨a1, a2, ?_, a3, a4, a5⟩, ax⟩, b1, b2, ?_⟩
            · intro hn
              rcases d with d | ⟨-, d⟩
              · exact absurd d hn
              · exact d
            · rcases d with d | ⟨d, -⟩ <;> omega
          · rintro ⟨⟨⟨a1, a2, dv, a3, a4, a5⟩, ax⟩, b1, b2, d⟩
            refine ⟨⟨⟨a1, a2, a3, a4, a5⟩, ax⟩, ⟨b1, b2⟩, ?_⟩
            by_cases h0 : e = 0
            · exact .inl h0
            · exact .inr ⟨by omega, dv h0⟩
        · intros; omega
      · rw [if_neg (by rintro ⟨-, -, -, h4, h5, h6, h7⟩; exact hi ⟨⟨h4, h5⟩, h6, h7⟩)]
        constructor
        · intro h; cases h
        · rintro ⟨-, -, -, h4, h5, -⟩; exact absurd ⟨h4, h5⟩ hi
    · rw [if_neg (by rintro ⟨-, -, h, -⟩; exact hb h)]
      constructor
      · intro h; cases h
      · rintro ⟨-, -, h, -⟩; exact absurd h hb
  · rw [if_neg (by rintro ⟨h1, h2, -⟩; exact hk ⟨h1, h2⟩)]
    constructor
    · intro h; cases h
    · rintro ⟨h, -⟩; exact absurd h hk

set_option maxHeartbeats 4000000 in
theorem fMay_any (m : Msg) (va : Option Addr) (vn vc : Nat) (x : List Wr) (w : World) (hv : Ws 0 w.heap.size w (.slice va vn vc) x) :
    Calls Try.prog 10 #[.agg (m.cells (.slice va vn vc))] w fun e w' => e = .returned (.bool (m.may x)) ∧ Below w.heap.size w w' := by
  have M := Mem.start w
  have hW : Ws 0 w.heap.size w (fldMV m (.slice va vn vc)) (fldMX m x) := by
    unfold fldMV fldMX; split
    · exact hv
    · exact Rd.nil _ _ _ _
  have yes : refMayM m x → ∀ b : Bool, b = true → b = m.may x := fun h b hb => by rw [(mayM_ref m x).2 h, hb]
  have no : ¬ refMayM m x → ∀ b : Bool, b = false → b = m.may x := fun h b hb => by
    rw [hb]
    cases e : m.may x with
    | false => rfl
    | true => exact absurd ((mayM_ref m x).1 e) h
  have both : ∀ b : Bool, (b = true ↔ refMayM m x) → b = m.may x := fun b h => by
    by_cases hr : refMayM m x
    · exact yes hr b (h.2 hr)
    · exact no hr b (by cases b; rfl; exact absurd (h.1 rfl) hr)
  refine calls_enter Try.func10 rfl 180 rfl rfl ?_; intro a S
  refine wp_seq ?_
  -- region 0 ref.go:55
  refine wp_region_lit ?_
  refine st_box S M rfl rfl rfl #[_, _, _, _, _, _, _, _, _, _, _, _, _, _, _, _, _, _, _, _, _, _, _, _] rfl ?_; clear S M a; intro a w1 b1 S M hB
  refine st_y S rfl rfl rfl (y_assign S rfl) ?_; clear S a; intro a S
  refine wpList_nil ?_
  replace S := S.sub [(0, _), (1, _), (2, _)] rfl
  refine then_normal ?_
  refine wp_seq ?_
  refine wp_seq ?_
  -- region 1 ref.go:56
  refine wp_quiet M (by kernel_rfl) (by kernel_rfl) ?_
  refine qt_y S rfl rfl rfl (fun w M => y_fieldAddr (k := 0) S (by kernel_rfl) rfl) ?_; clear S a; intro a S
  refine qt_y S rfl rfl rfl (fun w M => y_load S (by kernel_rfl) rfl (M.cell 0 rfl rfl)) ?_; clear S a; intro a S
  refine qt_y S rfl rfl rfl (fun w M => y_int S rfl rfl rfl) ?_; clear S a; intro a S
  refine qt_y S rfl rfl rfl (fun w M => y_move S rfl) ?_; clear S a; intro a S
  refine st_split (t := 6) S rfl ?_ ?_
  · clear S; intro h6 S
    first | replace h6 := nrmA h6 | replace h6 := nrmB h6 | skip
    first | replace h6 := nrm1 h6 | replace h6 := nrm2 h6 | replace h6 := nrm3 h6 | replace h6 := nrm4 h6 | replace h6 := nrm5 h6 | replace h6 := nrm6 h6 | replace h6 := of_decide_eq_true h6 | replace h6 := of_decide_eq_false h6 | skip
    refine qt_skip 3 S rfl ?_; clear S a; intro a S
    refine qt_y S rfl rfl rfl (fun w M => y_pickT S rfl rfl) ?_; clear S a; intro a S
    refine qt_y S rfl rfl rfl (fun w M => y_move S rfl) ?_; clear S a; intro a S
    refine qt_skip 5 S rfl ?_; clear S a; intro a S
    refine qt_y S rfl rfl rfl (fun w M => y_pickT S rfl rfl) ?_; clear S a; intro a S
    refine qt_y S rfl rfl rfl (fun w M => y_move S rfl) ?_; clear S a; intro a S
    refine qt_skip 3 S rfl ?_; clear S a; intro a S
    refine qt_y S rfl rfl rfl (fun w M => y_pickT S rfl rfl) ?_; clear S a; intro a S
    refine qt_y S rfl rfl rfl (fun w M => y_move S rfl) ?_; clear S a; intro a S
    refine qt_skip 3 S rfl ?_; clear S a; intro a S
    refine qt_y S rfl rfl rfl (fun w M => y_pickT S rfl rfl) ?_; clear S a; intro a S
    refine qt_y S rfl rfl rfl (fun w M => y_move S rfl) ?_; clear S a; intro a S
    refine qt_skip 3 S rfl ?_; clear S a; intro a S
    refine qt_y S rfl rfl rfl (fun w M => y_pickT S rfl rfl) ?_; clear S a; intro a S
    refine qt_y S rfl rfl rfl (fun w M => y_move S rfl) ?_; clear S a; intro a S
    refine qt_skip 3 S rfl ?_; clear S a; intro a S
    refine qt_y S rfl rfl rfl (fun w M => y_pickT S rfl rfl) ?_; clear S a; intro a S
    refine qt_y S rfl rfl rfl (fun w M => y_move S rfl) ?_; clear S a; intro a S
    refine qt_skip 7 S rfl ?_; clear S a; intro a S
    refine qt_y S rfl rfl rfl (fun w M => y_pickT S rfl rfl) ?_; clear S a; intro a S
    refine qt_y S rfl rfl rfl (fun w M => y_move S rfl) ?_; clear S a; intro a S
    refine qt_skip 7 S rfl ?_; clear S a; intro a S
    refine qt_y S rfl rfl rfl (fun w M => y_pickT S rfl rfl) ?_; clear S a; intro a S
    refine wpQuiet_nil ?_; clear M; intro w2 M
    replace S := S.sub [(0, _), (1, _), (2, _), (55, _)] rfl
    refine then_normal ?_
    refine st_condT S rfl ?_
    refine wp_seq ?_
    -- region 2 ref.go:57
    refine wp_region_lit ?_
    refine st_y S rfl rfl rfl (y_assign S rfl) ?_; clear S a; intro a S
    refine wpList_nil ?_
    replace S := S.sub [(0, _), (1, _), (55, _), (2, _)] rfl
    refine then_normal ?_
    refine wp_ret ?_
    refine then_ret ?_
    refine end_one S rfl (res_tmp rfl) ?_
    refine ⟨ret_bool (no ?_ _ rfl), M.below⟩; clear S M yes no both; rintro ⟨q1, q2, ⟨q3, q4, q5, q6⟩, -⟩
    first
      | omega
      | (rw [q2] at h18; simp at h18; done)
      | (apply q5; simp at h47; constructor <;> intro hz <;> simp_all; done)
      | (by_cases hz : m.frm = 0 <;> simp [hz] at q6 h55 <;> simp_all; done)
  · clear S; intro h6 S
    first | replace h6 := nrmA h6 | replace h6 := nrmB h6 | skip
    first | replace h6 := nrm1 h6 | replace h6 := nrm2 h6 | replace h6 := nrm3 h6 | replace h6 := nrm4 h6 | replace h6 := nrm5 h6 | replace h6 := nrm6 h6 | replace h6 := of_decide_eq_true h6 | replace h6 := of_decide_eq_false h6 | skip
    refine qt_y S rfl rfl rfl (fun w M => y_fieldAddr (k := 0) S (by kernel_rfl) rfl) ?_; clear S a; intro a S
    refine qt_y S rfl rfl rfl (fun w M => y_load S (by kernel_rfl) rfl (M.cell 0 rfl rfl)) ?_; clear S a; intro a S
    refine qt_y S rfl rfl rfl (fun w M => y_int S rfl rfl rfl) ?_; clear S a; intro a S
    refine qt_y S rfl rfl rfl (fun w M => y_pickF S rfl rfl) ?_; clear S a; intro a S
    refine qt_y S rfl rfl rfl (fun w M => y_move S rfl) ?_; clear S a; intro a S
    refine st_split (t := 11) S rfl ?_ ?_
    · clear S; intro h11 S
      first | replace h11 := nrmA h11 | replace h11 := nrmB h11 | skip
      first | replace h11 := nrm1 h11 | replace h11 := nrm2 h11 | replace h11 := nrm3 h11 | replace h11 := nrm4 h11 | replace h11 := nrm5 h11 | replace h11 := nrm6 h11 | replace h11 := of_decide_eq_true h11 | replace h11 := of_decide_eq_false h11 | skip
      refine qt_skip 5 S rfl ?_; clear S a; intro a S
      refine qt_y S rfl rfl rfl (fun w M => y_pickT S rfl rfl) ?_; clear S a; intro a S
      refine qt_y S rfl rfl rfl (fun w M => y_move S rfl) ?_; clear S a; intro a S
      refine qt_skip 3 S rfl ?_; clear S a; intro a S
      refine qt_y S rfl rfl rfl (fun w M => y_pickT S rfl rfl) ?_; clear S a; intro a S
      refine qt_y S rfl rfl rfl (fun w M => y_move S rfl) ?_; clear S a; intro a S
      refine qt_skip 3 S rfl ?_; clear S a; intro a S
      refine qt_y S rfl rfl rfl (fun w M => y_pickT S rfl rfl) ?_; clear S a; intro a S
      refine qt_y S rfl rfl rfl (fun w M => y_move S rfl) ?_; clear S a; intro a S
      refine qt_skip 3 S rfl ?_; clear S a; intro a S
      refine qt_y S rfl rfl rfl (fun w M => y_pickT S rfl rfl) ?_; clear S a; intro a S
      refine qt_y S rfl rfl rfl (fun w M => y_move S rfl) ?_; clear S a; intro a S
      refine qt_skip 3 S rfl ?_; clear S a; intro a S
      refine qt_y S rfl rfl rfl (fun w M => y_pickT S rfl rfl) ?_; clear S a; intro a S
      refine qt_y S rfl rfl rfl (fun w M => y_move S rfl) ?_; clear S a; intro a S
      refine qt_skip 7 S rfl ?_; clear S a; intro a S
      refine qt_y S rfl rfl rfl (fun w M => y_pickT S rfl rfl) ?_; clear S a; intro a S
      refine qt_y S rfl rfl rfl (fun w M => y_move S rfl) ?_; clear S a; intro a S
      refine qt_skip 7 S rfl ?_; clear S a; intro a S
      refine qt_y S rfl rfl rfl (fun w M => y_pickT S rfl rfl) ?_; clear S a; intro a S
      refine wpQuiet_nil ?_; clear M; intro w3 M
      replace S := S.sub [(0, _), (1, _), (2, _), (55, _)] rfl
      refine then_normal ?_
      refine st_condT S rfl ?_
      refine wp_seq ?_
      -- region 2 ref.go:57
      refine wp_region_lit ?_
      refine st_y S rfl rfl rfl (y_assign S rfl) ?_; clear S a; intro a S
      refine wpList_nil ?_
      replace S := S.sub [(0, _), (1, _), (55, _), (2, _)] rfl
      refine then_normal ?_
      refine wp_ret ?_
      refine then_ret ?_
      refine end_one S rfl (res_tmp rfl) ?_
      refine ⟨ret_bool (no ?_ _ rfl), M.below⟩; clear S M yes no both; rintro ⟨q1, q2, ⟨q3, q4, q5, q6⟩, -⟩
      first
        | omega
        | (rw [q2] at h18; simp at h18; done)
        | (apply q5; simp at h47; constructor <;> intro hz <;> simp_all; done)
        | (by_cases hz : m.frm = 0 <;> simp [hz] at q6 h55 <;> simp_all; done)
    · clear S; intro h11 S
      first | replace h11 := nrmA h11 | replace h11 := nrmB h11 | skip
      first | replace h11 := nrm1 h11 | replace h11 := nrm2 h11 | replace h11 := nrm3 h11 | replace h11 := nrm4 h11 | replace h11 := nrm5 h11 | replace h11 := nrm6 h11 | replace h11 := of_decide_eq_true h11 | replace h11 := of_decide_eq_false h11 | skip
      refine qt_y S rfl rfl rfl (fun w M => y_loadAgg (cs := [_, _, _, _, _, _, _, _, _, _, _, _, _, _, _, _, _, _, _, _, _, _, _, _]) S (by kernel_rfl) rfl rfl (M.cellsAt (k := 24) 0 rfl rfl)) ?_; clear S a; intro a S
      refine qt_y S rfl rfl rfl (fun w M => y_loadAgg (cs := [_, _, _, _, _, _, _, _, _, _, _, _, _, _, _, _, _, _, _, _, _, _, _, _]) S (by kernel_rfl) rfl rfl (M.cellsAt (k := 24) 0 rfl rfl)) ?_; clear S a; intro a S
      refine qt_call (xs := [(Operand.tmp 13)]) S (enters_of Try.func17 (by decide) rfl) rfl rfl rfl (quiet_of fun w M => fFields_any m va vn vc _) ?_; clear S a; intro a S
      refine qt_call (xs := [(Operand.tmp 12), (Operand.tmp 14)]) S (enters_of Try.func16 (by decide) rfl) rfl rfl rfl (quiet_of fun w M => fSame_any m m.flds _ _ x (fldMX m x) _ (M.argW hv) (M.argW hW)) ?_; clear S a; intro a S
      refine qt_y S rfl rfl rfl (fun w M => y_not S rfl) ?_; clear S a; intro a S
      refine qt_y S rfl rfl rfl (fun w M => y_pickF S rfl rfl) ?_; clear S a; intro a S
      refine qt_y S rfl rfl rfl (fun w M => y_move S rfl) ?_; clear S a; intro a S
      refine st_split (t := 18) S rfl ?_ ?_
      · clear S; intro h18 S
        refine qt_skip 3 S rfl ?_; clear S a; intro a S
        refine qt_y S rfl rfl rfl (fun w M => y_pickT S rfl rfl) ?_; clear S a; intro a S
        refine qt_y S rfl rfl rfl (fun w M => y_move S rfl) ?_; clear S a; intro a S
        refine qt_skip 3 S rfl ?_; clear S a; intro a S
        refine qt_y S rfl rfl rfl (fun w M => y_pickT S rfl rfl) ?_; clear S a; intro a S
        refine qt_y S rfl rfl rfl (fun w M => y_move S rfl) ?_; clear S a; intro a S
        refine qt_skip 3 S rfl ?_; clear S a; intro a S
        refine qt_y S rfl rfl rfl (fun w M => y_pickT S rfl rfl) ?_; clear S a; intro a S
        refine qt_y S rfl rfl rfl (fun w M => y_move S rfl) ?_; clear S a; intro a S
        refine qt_skip 3 S rfl ?_; clear S a; intro a S
        refine qt_y S rfl rfl rfl (fun w M => y_pickT S rfl rfl) ?_; clear S a; intro a S
        refine qt_y S rfl rfl rfl (fun w M => y_move S rfl) ?_; clear S a; intro a S
        refine qt_skip 7 S rfl ?_; clear S a; intro a S
        refine qt_y S rfl rfl rfl (fun w M => y_pickT S rfl rfl) ?_; clear S a; intro a S
        refine qt_y S rfl rfl rfl (fun w M => y_move S rfl) ?_; clear S a; intro a S
        refine qt_skip 7 S rfl ?_; clear S a; intro a S
        refine qt_y S rfl rfl rfl (fun w M => y_pickT S rfl rfl) ?_; clear S a; intro a S
        refine wpQuiet_nil ?_; clear M; intro w6 M
        replace S := S.sub [(0, _), (1, _), (2, _), (55, _)] rfl
        refine then_normal ?_
        refine st_condT S rfl ?_
        refine wp_seq ?_
        -- region 2 ref.go:57
        refine wp_region_lit ?_
        refine st_y S rfl rfl rfl (y_assign S rfl) ?_; clear S a; intro a S
        refine wpList_nil ?_
        replace S := S.sub [(0, _), (1, _), (55, _), (2, _)] rfl
        refine then_normal ?_
        refine wp_ret ?_
        refine then_ret ?_
        refine end_one S rfl (res_tmp rfl) ?_
        refine ⟨ret_bool (no ?_ _ rfl), M.below⟩; clear S M yes no both; rintro ⟨q1, q2, ⟨q3, q4, q5, q6⟩, -⟩
        first
          | omega
          | (rw [q2] at h18; simp at h18; done)
          | (apply q5; simp at h47; constructor <;> intro hz <;> simp_all; done)
          | (by_cases hz : m.frm = 0 <;> simp [hz] at q6 h55 <;> simp_all; done)
      · clear S; intro h18 S
        refine qt_y S rfl rfl rfl (fun w M => y_fieldAddr (k := 1) S (by kernel_rfl) rfl) ?_; clear S a; intro a S
        refine qt_y S rfl rfl rfl (fun w M => y_load S (by kernel_rfl) rfl (M.cell 0 rfl rfl)) ?_; clear S a; intro a S
        refine qt_y S rfl rfl rfl (fun w M => y_int S rfl rfl rfl) ?_; clear S a; intro a S
        refine qt_y S rfl rfl rfl (fun w M => y_pickF S rfl rfl) ?_; clear S a; intro a S
        refine qt_y S rfl rfl rfl (fun w M => y_move S rfl) ?_; clear S a; intro a S
        refine st_split (t := 23) S rfl ?_ ?_
        · clear S; intro h23 S
          first | replace h23 := nrmA h23 | replace h23 := nrmB h23 | skip
          first | replace h23 := nrm1 h23 | replace h23 := nrm2 h23 | replace h23 := nrm3 h23 | replace h23 := nrm4 h23 | replace h23 := nrm5 h23 | replace h23 := nrm6 h23 | replace h23 := of_decide_eq_true h23 | replace h23 := of_decide_eq_false h23 | skip
          refine qt_skip 3 S rfl ?_; clear S a; intro a S
          refine qt_y S rfl rfl rfl (fun w M => y_pickT S rfl rfl) ?_; clear S a; intro a S
          refine qt_y S rfl rfl rfl (fun w M => y_move S rfl) ?_; clear S a; intro a S
          refine qt_skip 3 S rfl ?_; clear S a; intro a S
          refine qt_y S rfl rfl rfl (fun w M => y_pickT S rfl rfl) ?_; clear S a; intro a S
          refine qt_y S rfl rfl rfl (fun w M => y_move S rfl) ?_; clear S a; intro a S
          refine qt_skip 3 S rfl ?_; clear S a; intro a S
          refine qt_y S rfl rfl rfl (fun w M => y_pickT S rfl rfl) ?_; clear S a; intro a S
          refine qt_y S rfl rfl rfl (fun w M => y_move S rfl) ?_; clear S a; intro a S
          refine qt_skip 7 S rfl ?_; clear S a; intro a S
          refine qt_y S rfl rfl rfl (fun w M => y_pickT S rfl rfl) ?_; clear S a; intro a S
          refine qt_y S rfl rfl rfl (fun w M => y_move S rfl) ?_; clear S a; intro a S
          refine qt_skip 7 S rfl ?_; clear S a; intro a S
          refine qt_y S rfl rfl rfl (fun w M => y_pickT S rfl rfl) ?_; clear S a; intro a S
          refine wpQuiet_nil ?_; clear M; intro w7 M
          replace S := S.sub [(0, _), (1, _), (2, _), (55, _)] rfl
          refine then_normal ?_
          refine st_condT S rfl ?_
          refine wp_seq ?_
          -- region 2 ref.go:57
          refine wp_region_lit ?_
          refine st_y S rfl rfl rfl (y_assign S rfl) ?_; clear S a; intro a S
          refine wpList_nil ?_
          replace S := S.sub [(0, _), (1, _), (55, _), (2, _)] rfl
          refine then_normal ?_
          refine wp_ret ?_
          refine then_ret ?_
          refine end_one S rfl (res_tmp rfl) ?_
          refine ⟨ret_bool (no ?_ _ rfl), M.below⟩; clear S M yes no both; rintro ⟨q1, q2, ⟨q3, q4, q5, q6⟩, -⟩
          first
            | omega
            | (rw [q2] at h18; simp at h18; done)
            | (apply q5; simp at h47; constructor <;> intro hz <;> simp_all; done)
            | (by_cases hz : m.frm = 0 <;> simp [hz] at q6 h55 <;> simp_all; done)
        · clear S; intro h23 S
          first | replace h23 := nrmA h23 | replace h23 := nrmB h23 | skip
          first | replace h23 := nrm1 h23 | replace h23 := nrm2 h23 | replace h23 := nrm3 h23 | replace h23 := nrm4 h23 | replace h23 := nrm5 h23 | replace h23 := nrm6 h23 | replace h23 := of_decide_eq_true h23 | replace h23 := of_decide_eq_false h23 | skip
          refine qt_y S rfl rfl rfl (fun w M => y_fieldAddr (k := 1) S (by kernel_rfl) rfl) ?_; clear S a; intro a S
          refine qt_y S rfl rfl rfl (fun w M => y_load S (by kernel_rfl) rfl (M.cell 0 rfl rfl)) ?_; clear S a; intro a S
          refine qt_y S rfl rfl rfl (fun w M => y_int S rfl rfl rfl) ?_; clear S a; intro a S
          refine qt_y S rfl rfl rfl (fun w M => y_pickF S rfl rfl) ?_; clear S a; intro a S
          refine qt_y S rfl rfl rfl (fun w M => y_move S rfl) ?_; clear S a; intro a S
          refine st_split (t := 28) S rfl ?_ ?_
          · clear S; intro h28 S
            first | replace h28 := nrmA h28 | replace h28 := nrmB h28 | skip
            first | replace h28 := nrm1 h28 | replace h28 := nrm2 h28 | replace h28 := nrm3 h28 | replace h28 := nrm4 h28 | replace h28 := nrm5 h28 | replace h28 := nrm6 h28 | replace h28 := of_decide_eq_true h28 | replace h28 := of_decide_eq_false h28 | skip
            refine qt_skip 3 S rfl ?_; clear S a; intro a S
            refine qt_y S rfl rfl rfl (fun w M => y_pickT S rfl rfl) ?_; clear S a; intro a S
            refine qt_y S rfl rfl rfl (fun w M => y_move S rfl) ?_; clear S a; intro a S
            refine qt_skip 3 S rfl ?_; clear S a; intro a S
            refine qt_y S rfl rfl rfl (fun w M => y_pickT S rfl rfl) ?_; clear S a; intro a S
            refine qt_y S rfl rfl rfl (fun w M => y_move S rfl) ?_; clear S a; intro a S
            refine qt_skip 7 S rfl ?_; clear S a; intro a S
            refine qt_y S rfl rfl rfl (fun w M => y_pickT S rfl rfl) ?_; clear S a; intro a S
            refine qt_y S rfl rfl rfl (fun w M => y_move S rfl) ?_; clear S a; intro a S
            refine qt_skip 7 S rfl ?_; clear S a; intro a S
            refine qt_y S rfl rfl rfl (fun w M => y_pickT S rfl rfl) ?_; clear S a; intro a S
            refine wpQuiet_nil ?_; clear M; intro w8 M
            replace S := S.sub [(0, _), (1, _), (2, _), (55, _)] rfl
            refine then_normal ?_
            refine st_condT S rfl ?_
            refine wp_seq ?_
            -- region 2 ref.go:57
            refine wp_region_lit ?_
            refine st_y S rfl rfl rfl (y_assign S rfl) ?_; clear S a; intro a S
            refine wpList_nil ?_
            replace S := S.sub [(0, _), (1, _), (55, _), (2, _)] rfl
            refine then_normal ?_
            refine wp_ret ?_
            refine then_ret ?_
            refine end_one S rfl (res_tmp rfl) ?_
            refine ⟨ret_bool (no ?_ _ rfl), M.below⟩; clear S M yes no both; rintro ⟨q1, q2, ⟨q3, q4, q5, q6⟩, -⟩
            first
              | omega
              | (rw [q2] at h18; simp at h18; done)
              | (apply q5; simp at h47; constructor <;> intro hz <;> simp_all; done)
              | (by_cases hz : m.frm = 0 <;> simp [hz] at q6 h55 <;> simp_all; done)
          · clear S; intro h28 S
            first | replace h28 := nrmA h28 | replace h28 := nrmB h28 | skip
            first | replace h28 := nrm1 h28 | replace h28 := nrm2 h28 | replace h28 := nrm3 h28 | replace h28 := nrm4 h28 | replace h28 := nrm5 h28 | replace h28 := nrm6 h28 | replace h28 := of_decide_eq_true h28 | replace h28 := of_decide_eq_false h28 | skip
            refine qt_y S rfl rfl rfl (fun w M => y_fieldAddr (k := 2) S (by kernel_rfl) rfl) ?_; clear S a; intro a S
            refine qt_y S rfl rfl rfl (fun w M => y_load S (by kernel_rfl) rfl (M.cell 0 rfl rfl)) ?_; clear S a; intro a S
            refine qt_y S rfl rfl rfl (fun w M => y_int S rfl rfl rfl) ?_; clear S a; intro a S
            refine qt_y S rfl rfl rfl (fun w M => y_pickF S rfl rfl) ?_; clear S a; intro a S
            refine qt_y S rfl rfl rfl (fun w M => y_move S rfl) ?_; clear S a; intro a S
            refine st_split (t := 33) S rfl ?_ ?_
            · clear S; intro h33 S
              first | replace h33 := nrmA h33 | replace h33 := nrmB h33 | skip
              first | replace h33 := nrm1 h33 | replace h33 := nrm2 h33 | replace h33 := nrm3 h33 | replace h33 := nrm4 h33 | replace h33 := nrm5 h33 | replace h33 := nrm6 h33 | replace h33 := of_decide_eq_true h33 | replace h33 := of_decide_eq_false h33 | skip
              refine qt_skip 3 S rfl ?_; clear S a; intro a S
              refine qt_y S rfl rfl rfl (fun w M => y_pickT S rfl rfl) ?_; clear S a; intro a S
              refine qt_y S rfl rfl rfl (fun w M => y_move S rfl) ?_; clear S a; intro a S
              refine qt_skip 7 S rfl ?_; clear S a; intro a S
              refine qt_y S rfl rfl rfl (fun w M => y_pickT S rfl rfl) ?_; clear S a; intro a S
              refine qt_y S rfl rfl rfl (fun w M => y_move S rfl) ?_; clear S a; intro a S
              refine qt_skip 7 S rfl ?_; clear S a; intro a S
              refine qt_y S rfl rfl rfl (fun w M => y_pickT S rfl rfl) ?_; clear S a; intro a S
              refine wpQuiet_nil ?_; clear M; intro w9 M
              replace S := S.sub [(0, _), (1, _), (2, _), (55, _)] rfl
              refine then_normal ?_
              refine st_condT S rfl ?_
              refine wp_seq ?_
              -- region 2 ref.go:57
              refine wp_region_lit ?_
              refine st_y S rfl rfl rfl (y_assign S rfl) ?_; clear S a; intro a S
              refine wpList_nil ?_
              replace S := S.sub [(0, _), (1, _), (55, _), (2, _)] rfl
              refine then_normal ?_
              refine wp_ret ?_
              refine then_ret ?_
              refine end_one S rfl (res_tmp rfl) ?_
              refine ⟨ret_bool (no ?_ _ rfl), M.below⟩; clear S M yes no both; rintro ⟨q1, q2, ⟨q3, q4, q5, q6⟩, -⟩
              first
                | omega
                | (rw [q2] at h18; simp at h18; done)
                | (apply q5; simp at h47; constructor <;> intro hz <;> simp_all; done)
                | (by_cases hz : m.frm = 0 <;> simp [hz] at q6 h55 <;> simp_all; done)
            · clear S; intro h33 S
              first | replace h33 := nrmA h33 | replace h33 := nrmB h33 | skip
              first | replace h33 := nrm1 h33 | replace h33 := nrm2 h33 | replace h33 := nrm3 h33 | replace h33 := nrm4 h33 | replace h33 := nrm5 h33 | replace h33 := nrm6 h33 | replace h33 := of_decide_eq_true h33 | replace h33 := of_decide_eq_false h33 | skip
              refine qt_y S rfl rfl rfl (fun w M => y_fieldAddr (k := 2) S (by kernel_rfl) rfl) ?_; clear S a; intro a S
              refine qt_y S rfl rfl rfl (fun w M => y_load S (by kernel_rfl) rfl (M.cell 0 rfl rfl)) ?_; clear S a; intro a S
              refine qt_y S rfl rfl rfl (fun w M => y_int S rfl rfl rfl) ?_; clear S a; intro a S
              refine qt_y S rfl rfl rfl (fun w M => y_pickF S rfl rfl) ?_; clear S a; intro a S
              refine qt_y S rfl rfl rfl (fun w M => y_move S rfl) ?_; clear S a; intro a S
              refine st_split (t := 38) S rfl ?_ ?_
              · clear S; intro h38 S
                first | replace h38 := nrmA h38 | replace h38 := nrmB h38 | skip
                first | replace h38 := nrm1 h38 | replace h38 := nrm2 h38 | replace h38 := nrm3 h38 | replace h38 := nrm4 h38 | replace h38 := nrm5 h38 | replace h38 := nrm6 h38 | replace h38 := of_decide_eq_true h38 | replace h38 := of_decide_eq_false h38 | skip
                refine qt_skip 7 S rfl ?_; clear S a; intro a S
                refine qt_y S rfl rfl rfl (fun w M => y_pickT S rfl rfl) ?_; clear S a; intro a S
                refine qt_y S rfl rfl rfl (fun w M => y_move S rfl) ?_; clear S a; intro a S
                refine qt_skip 7 S rfl ?_; clear S a; intro a S
                refine qt_y S rfl rfl rfl (fun w M => y_pickT S rfl rfl) ?_; clear S a; intro a S
                refine wpQuiet_nil ?_; clear M; intro w10 M
                replace S := S.sub [(0, _), (1, _), (2, _), (55, _)] rfl
                refine then_normal ?_
                refine st_condT S rfl ?_
                refine wp_seq ?_
                -- region 2 ref.go:57
                refine wp_region_lit ?_
                refine st_y S rfl rfl rfl (y_assign S rfl) ?_; clear S a; intro a S
                refine wpList_nil ?_
                replace S := S.sub [(0, _), (1, _), (55, _), (2, _)] rfl
                refine then_normal ?_
                refine wp_ret ?_
                refine then_ret ?_
                refine end_one S rfl (res_tmp rfl) ?_
                refine ⟨ret_bool (no ?_ _ rfl), M.below⟩; clear S M yes no both; rintro ⟨q1, q2, ⟨q3, q4, q5, q6⟩, -⟩
                first
                  | omega
                  | (rw [q2] at h18; simp at h18; done)
                  | (apply q5; simp at h47; constructor <;> intro hz <;> simp_all; done)
                  | (by_cases hz : m.frm = 0 <;> simp [hz] at q6 h55 <;> simp_all; done)
              · clear S; intro h38 S
                first | replace h38 := nrmA h38 | replace h38 := nrmB h38 | skip
                first | replace h38 := nrm1 h38 | replace h38 := nrm2 h38 | replace h38 := nrm3 h38 | replace h38 := nrm4 h38 | replace h38 := nrm5 h38 | replace h38 := nrm6 h38 | replace h38 := of_decide_eq_true h38 | replace h38 := of_decide_eq_false h38 | skip
                refine qt_y S rfl rfl rfl (fun w M => y_fieldAddr (k := 1) S (by kernel_rfl) rfl) ?_; clear S a; intro a S
                refine qt_y S rfl rfl rfl (fun w M => y_load S (by kernel_rfl) rfl (M.cell 0 rfl rfl)) ?_; clear S a; intro a S
                refine qt_y S rfl rfl rfl (fun w M => y_int S rfl rfl rfl) ?_; clear S a; intro a S
                refine qt_y S rfl rfl rfl (fun w M => y_fieldAddr (k := 2) S (by kernel_rfl) rfl) ?_; clear S a; intro a S
                refine qt_y S rfl rfl rfl (fun w M => y_load S (by kernel_rfl) rfl (M.cell 0 rfl rfl)) ?_; clear S a; intro a S
                refine qt_y S rfl rfl rfl (fun w M => y_int S rfl rfl rfl) ?_; clear S a; intro a S
                refine qt_y S rfl rfl rfl (fun w M => y_eqlBool (by kernel_rfl) S rfl rfl) ?_; clear S a; intro a S
                refine qt_y S rfl rfl rfl (fun w M => y_pickF S rfl rfl) ?_; clear S a; intro a S
                refine qt_y S rfl rfl rfl (fun w M => y_move S rfl) ?_; clear S a; intro a S
                refine st_split (t := 47) S rfl ?_ ?_
                · clear S; intro h47 S
                  refine qt_skip 7 S rfl ?_; clear S a; intro a S
                  refine qt_y S rfl rfl rfl (fun w M => y_pickT S rfl rfl) ?_; clear S a; intro a S
                  refine wpQuiet_nil ?_; clear M; intro w11 M
                  replace S := S.sub [(0, _), (1, _), (2, _), (55, _)] rfl
                  refine then_normal ?_
                  refine st_condT S rfl ?_
                  refine wp_seq ?_
                  -- region 2 ref.go:57
                  refine wp_region_lit ?_
                  refine st_y S rfl rfl rfl (y_assign S rfl) ?_; clear S a; intro a S
                  refine wpList_nil ?_
                  replace S := S.sub [(0, _), (1, _), (55, _), (2, _)] rfl
                  refine then_normal ?_
                  refine wp_ret ?_
                  refine then_ret ?_
                  refine end_one S rfl (res_tmp rfl) ?_
                  refine ⟨ret_bool (no ?_ _ rfl), M.below⟩; clear S M yes no both; rintro ⟨q1, q2, ⟨q3, q4, q5, q6⟩, -⟩
                  first
                    | omega
                    | (rw [q2] at h18; simp at h18; done)
                    | (apply q5; simp at h47; constructor <;> intro hz <;> simp_all; done)
                    | (by_cases hz : m.frm = 0 <;> simp [hz] at q6 h55 <;> simp_all; done)
                · clear S; intro h47 S
                  refine qt_y S rfl rfl rfl (fun w M => y_fieldAddr (k := 0) S (by kernel_rfl) rfl) ?_; clear S a; intro a S
                  refine qt_y S rfl rfl rfl (fun w M => y_load S (by kernel_rfl) rfl (M.cell 0 rfl rfl)) ?_; clear S a; intro a S
                  refine qt_call (xs := [(Operand.tmp 49)]) S (enters_of Try.func18 (by decide) rfl) rfl rfl rfl (quiet_of fun w M => fDown_any _ _) ?_; clear S a; intro a S
                  refine qt_y S rfl rfl rfl (fun w M => y_fieldAddr (k := 1) S (by kernel_rfl) rfl) ?_; clear S a; intro a S
                  refine qt_y S rfl rfl rfl (fun w M => y_load S (by kernel_rfl) rfl (M.cell 0 rfl rfl)) ?_; clear S a; intro a S
                  refine qt_y S rfl rfl rfl (fun w M => y_int S rfl rfl rfl) ?_; clear S a; intro a S
                  refine qt_y S rfl rfl rfl (fun w M => y_neqBool (by kernel_rfl) S rfl rfl) ?_; clear S a; intro a S
                  refine qt_y S rfl rfl rfl (fun w M => y_pickF S rfl rfl) ?_; clear S a; intro a S
                  refine wpQuiet_nil ?_; clear M; intro w13 M
                  replace S := S.sub [(0, _), (1, _), (2, _), (55, _)] rfl
                  refine then_normal ?_
                  refine st_split (t := 55) S rfl ?_ ?_
                  · clear S; intro h55 S
                    refine st_condT S rfl ?_
                    refine wp_seq ?_
                    -- region 2 ref.go:57
                    refine wp_region_lit ?_
                    refine st_y S rfl rfl rfl (y_assign S rfl) ?_; clear S a; intro a S
                    refine wpList_nil ?_
                    replace S := S.sub [(0, _), (1, _), (55, _), (2, _)] rfl
                    refine then_normal ?_
                    refine wp_ret ?_
                    refine then_ret ?_
                    refine end_one S rfl (res_tmp rfl) ?_
                    refine ⟨ret_bool (no ?_ _ rfl), M.below⟩; clear S M yes no both; rintro ⟨q1, q2, ⟨q3, q4, q5, q6⟩, -⟩
                    first
                      | omega
                      | (rw [q2] at h18; simp at h18; done)
                      | (apply q5; simp at h47; constructor <;> intro hz <;> simp_all; done)
                      | (by_cases hz : m.frm = 0 <;> simp [hz] at q6 h55 <;> simp_all; done)
                  · clear S; intro h55 S
                    refine st_condF S rfl ?_
                    refine wp_skip ?_
                    refine then_normal ?_
                    refine wp_seq ?_
                    refine wp_seq ?_
                    -- region 3 ref.go:59
                    refine wp_region_lit ?_
                    refine st_y S rfl rfl rfl (y_fieldAddr (k := 3) S (by kernel_rfl) rfl) ?_; clear S a; intro a S
                    refine st_y S rfl rfl rfl (y_load S (by kernel_rfl) rfl (M.cell 0 rfl rfl)) ?_; clear S a; intro a S
                    refine st_y S rfl rfl rfl (y_int S rfl rfl rfl) ?_; clear S a; intro a S
                    refine st_y S rfl rfl rfl (y_move S rfl) ?_; clear S a; intro a S
                    refine st_split (t := 59) S rfl ?_ ?_
                    · clear S; intro h59 S
                      first | replace h59 := nrmA h59 | replace h59 := nrmB h59 | skip
                      first | replace h59 := nrm1 h59 | replace h59 := nrm2 h59 | replace h59 := nrm3 h59 | replace h59 := nrm4 h59 | replace h59 := nrm5 h59 | replace h59 := nrm6 h59 | replace h59 := of_decide_eq_true h59 | replace h59 := of_decide_eq_false h59 | skip
                      refine st_skip 3 S rfl ?_; clear S a; intro a S
                      refine st_y S rfl rfl rfl (y_pickT S rfl rfl) ?_; clear S a; intro a S
                      refine st_y S rfl rfl rfl (y_move S rfl) ?_; clear S a; intro a S
                      refine st_skip 3 S rfl ?_; clear S a; intro a S
                      refine st_y S rfl rfl rfl (y_pickT S rfl rfl) ?_; clear S a; intro a S
                      refine st_y S rfl rfl rfl (y_move S rfl) ?_; clear S a; intro a S
                      refine st_skip 3 S rfl ?_; clear S a; intro a S
                      refine st_y S rfl rfl rfl (y_pickT S rfl rfl) ?_; clear S a; intro a S
                      refine wpList_nil ?_
                      replace S := S.sub [(0, _), (1, _), (2, _), (55, _), (73, _)] rfl
                      refine then_normal ?_
                      refine st_condT S rfl ?_
                      refine wp_seq ?_
                      -- region 4 ref.go:60
                      refine wp_region_lit ?_
                      refine st_y S rfl rfl rfl (y_assign S rfl) ?_; clear S a; intro a S
                      refine wpList_nil ?_
                      replace S := S.sub [(0, _), (1, _), (55, _), (73, _), (2, _)] rfl
                      refine then_normal ?_
                      refine wp_ret ?_
                      refine then_ret ?_
                      refine end_one S rfl (res_tmp rfl) ?_
                      refine ⟨ret_bool (no ?_ _ rfl), M.below⟩; clear S M yes no both; rintro ⟨-, -, -, q1, q2, -⟩; omega
                    · clear S; intro h59 S
                      first | replace h59 := nrmA h59 | replace h59 := nrmB h59 | skip
                      first | replace h59 := nrm1 h59 | replace h59 := nrm2 h59 | replace h59 := nrm3 h59 | replace h59 := nrm4 h59 | replace h59 := nrm5 h59 | replace h59 := nrm6 h59 | replace h59 := of_decide_eq_true h59 | replace h59 := of_decide_eq_false h59 | skip
                      refine st_y S rfl rfl rfl (y_fieldAddr (k := 3) S (by kernel_rfl) rfl) ?_; clear S a; intro a S
                      refine st_y S rfl rfl rfl (y_load S (by kernel_rfl) rfl (M.cell 0 rfl rfl)) ?_; clear S a; intro a S
                      refine st_y S rfl rfl rfl (y_int S rfl rfl rfl) ?_; clear S a; intro a S
                      refine st_y S rfl rfl rfl (y_pickF S rfl rfl) ?_; clear S a; intro a S
                      refine st_y S rfl rfl rfl (y_move S rfl) ?_; clear S a; intro a S
                      refine st_split (t := 64) S rfl ?_ ?_
                      · clear S; intro h64 S
                        first | replace h64 := nrmA h64 | replace h64 := nrmB h64 | skip
                        first | replace h64 := nrm1 h64 | replace h64 := nrm2 h64 | replace h64 := nrm3 h64 | replace h64 := nrm4 h64 | replace h64 := nrm5 h64 | replace h64 := nrm6 h64 | replace h64 := of_decide_eq_true h64 | replace h64 := of_decide_eq_false h64 | skip
                        refine st_skip 3 S rfl ?_; clear S a; intro a S
                        refine st_y S rfl rfl rfl (y_pickT S rfl rfl) ?_; clear S a; intro a S
                        refine st_y S rfl rfl rfl (y_move S rfl) ?_; clear S a; intro a S
                        refine st_skip 3 S rfl ?_; clear S a; intro a S
                        refine st_y S rfl rfl rfl (y_pickT S rfl rfl) ?_; clear S a; intro a S
                        refine wpList_nil ?_
                        replace S := S.sub [(0, _), (1, _), (2, _), (55, _), (73, _)] rfl
                        refine then_normal ?_
                        refine st_condT S rfl ?_
                        refine wp_seq ?_
                        -- region 4 ref.go:60
                        refine wp_region_lit ?_
                        refine st_y S rfl rfl rfl (y_assign S rfl) ?_; clear S a; intro a S
                        refine wpList_nil ?_
                        replace S := S.sub [(0, _), (1, _), (55, _), (73, _), (2, _)] rfl
                        refine then_normal ?_
                        refine wp_ret ?_
                        refine then_ret ?_
                        refine end_one S rfl (res_tmp rfl) ?_
                        refine ⟨ret_bool (no ?_ _ rfl), M.below⟩; clear S M yes no both; rintro ⟨-, -, -, q1, q2, -⟩; omega
                      · clear S; intro h64 S
                        first | replace h64 := nrmA h64 | replace h64 := nrmB h64 | skip
                        first | replace h64 := nrm1 h64 | replace h64 := nrm2 h64 | replace h64 := nrm3 h64 | replace h64 := nrm4 h64 | replace h64 := nrm5 h64 | replace h64 := nrm6 h64 | replace h64 := of_decide_eq_true h64 | replace h64 := of_decide_eq_false h64 | skip
                        refine st_y S rfl rfl rfl (y_fieldAddr (k := 4) S (by kernel_rfl) rfl) ?_; clear S a; intro a S
                        refine st_y S rfl rfl rfl (y_load S (by kernel_rfl) rfl (M.cell 0 rfl rfl)) ?_; clear S a; intro a S
                        refine st_y S rfl rfl rfl (y_int S rfl rfl rfl) ?_; clear S a; intro a S
                        refine st_y S rfl rfl rfl (y_pickF S rfl rfl) ?_; clear S a; intro a S
                        refine st_y S rfl rfl rfl (y_move S rfl) ?_; clear S a; intro a S
                        refine st_split (t := 69) S rfl ?_ ?_
                        · clear S; intro h69 S
                          first | replace h69 := nrmA h69 | replace h69 := nrmB h69 | skip
                          first | replace h69 := nrm1 h69 | replace h69 := nrm2 h69 | replace h69 := nrm3 h69 | replace h69 := nrm4 h69 | replace h69 := nrm5 h69 | replace h69 := nrm6 h69 | replace h69 := of_decide_eq_true h69 | replace h69 := of_decide_eq_false h69 | skip
                          refine st_skip 3 S rfl ?_; clear S a; intro a S
                          refine st_y S rfl rfl rfl (y_pickT S rfl rfl) ?_; clear S a; intro a S
                          refine wpList_nil ?_
                          replace S := S.sub [(0, _), (1, _), (2, _), (55, _), (73, _)] rfl
                          refine then_normal ?_
                          refine st_condT S rfl ?_
                          refine wp_seq ?_
                          -- region 4 ref.go:60
                          refine wp_region_lit ?_
                          refine st_y S rfl rfl rfl (y_assign S rfl) ?_; clear S a; intro a S
                          refine wpList_nil ?_
                          replace S := S.sub [(0, _), (1, _), (55, _), (73, _), (2, _)] rfl
                          refine then_normal ?_
                          refine wp_ret ?_
                          refine then_ret ?_
                          refine end_one S rfl (res_tmp rfl) ?_
                          refine ⟨ret_bool (no ?_ _ rfl), M.below⟩; clear S M yes no both; rintro ⟨-, -, -, q1, q2, -⟩; omega
                        · clear S; intro h69 S
                          first | replace h69 := nrmA h69 | replace h69 := nrmB h69 | skip
                          first | replace h69 := nrm1 h69 | replace h69 := nrm2 h69 | replace h69 := nrm3 h69 | replace h69 := nrm4 h69 | replace h69 := nrm5 h69 | replace h69 := nrm6 h69 | replace h69 := of_decide_eq_true h69 | replace h69 := of_decide_eq_false h69 | skip
                          refine st_y S rfl rfl rfl (y_fieldAddr (k := 4) S (by kernel_rfl) rfl) ?_; clear S a; intro a S
                          refine st_y S rfl rfl rfl (y_load S (by kernel_rfl) rfl (M.cell 0 rfl rfl)) ?_; clear S a; intro a S
                          refine st_y S rfl rfl rfl (y_int S rfl rfl rfl) ?_; clear S a; intro a S
                          refine st_y S rfl rfl rfl (y_pickF S rfl rfl) ?_; clear S a; intro a S
                          refine wpList_nil ?_
                          replace S := S.sub [(0, _), (1, _), (2, _), (55, _), (73, _)] rfl
                          refine then_normal ?_
                          refine st_split (t := 73) S rfl ?_ ?_
                          · clear S; intro h73 S
                            first | replace h73 := nrmA h73 | replace h73 := nrmB h73 | skip
                            first | replace h73 := nrm1 h73 | replace h73 := nrm2 h73 | replace h73 := nrm3 h73 | replace h73 := nrm4 h73 | replace h73 := nrm5 h73 | replace h73 := nrm6 h73 | replace h73 := of_decide_eq_true h73 | replace h73 := of_decide_eq_false h73 | skip
                            refine st_condT S rfl ?_
                            refine wp_seq ?_
                            -- region 4 ref.go:60
                            refine wp_region_lit ?_
                            refine st_y S rfl rfl rfl (y_assign S rfl) ?_; clear S a; intro a S
                            refine wpList_nil ?_
                            replace S := S.sub [(0, _), (1, _), (55, _), (73, _), (2, _)] rfl
                            refine then_normal ?_
                            refine wp_ret ?_
                            refine then_ret ?_
                            refine end_one S rfl (res_tmp rfl) ?_
                            refine ⟨ret_bool (no ?_ _ rfl), M.below⟩; clear S M yes no both; rintro ⟨-, -, -, q1, q2, -⟩; omega
                          · clear S; intro h73 S
                            first | replace h73 := nrmA h73 | replace h73 := nrmB h73 | skip
                            first | replace h73 := nrm1 h73 | replace h73 := nrm2 h73 | replace h73 := nrm3 h73 | replace h73 := nrm4 h73 | replace h73 := nrm5 h73 | replace h73 := nrm6 h73 | replace h73 := of_decide_eq_true h73 | replace h73 := of_decide_eq_false h73 | skip
                            refine st_condF S rfl ?_
                            refine wp_skip ?_
                            refine then_normal ?_
                            refine wp_seq ?_
                            refine wp_seq ?_
                            -- region 5 ref.go:62
                            have hs : m.same m.flds x (fldMX m x) = true := by simpa using h18
                            have hh : fHeadP m := by
                              have e47 : ¬ (m.frm == 0) = (m.to == 0) := by simpa using h47
                              have e55 : kdown m.kind = (m.frm == 0) := by simpa using h55
                              refine ⟨by omega, by omega, fun h => e47 ?_, ?_⟩
                              · rw [Bool.eq_iff_iff]; simpa using h
                              · rw [e55]; simp
                            have hk : 1 ≤ m.kind ∧ m.kind ≤ 11 := by omega
                            have hi : (1 ≤ m.inc ∧ m.inc ≤ 1048576) ∧ (0 ≤ m.your ∧ m.your ≤ 1048576) := by omega
                            have mk : ∀ b : Bool, (b = true ↔ (m.kind = 1 ∨ m.kind = 11 ∨ (m.name.named = true ∧ fKind m x = true))) → b = m.may x := fun b h => both b (by
                              unfold refMayM; rw [h]; exact ⟨fun q => ⟨hk, hs, hh, hi.1, hi.2, q⟩, fun q => q.2.2.2.2.2⟩)
                            clear yes no both h18 h47 h55 hs hh
                            refine wp_region_lit ?_
                            refine st_y S rfl rfl rfl (y_fieldAddr (k := 0) S (by kernel_rfl) rfl) ?_; clear S a; intro a S
                            refine st_y S rfl rfl rfl (y_load S (by kernel_rfl) rfl (M.cell 0 rfl rfl)) ?_; clear S a; intro a S
                            refine st_y S rfl rfl rfl (y_int S rfl rfl rfl) ?_; clear S a; intro a S
                            refine st_y S rfl rfl rfl (y_move S rfl) ?_; clear S a; intro a S
                            refine st_split (t := 77) S rfl ?_ ?_
                            · clear S; intro h77 S
                              first | replace h77 := nrmA h77 | replace h77 := nrmB h77 | skip
                              first | replace h77 := nrm1 h77 | replace h77 := nrm2 h77 | replace h77 := nrm3 h77 | replace h77 := nrm4 h77 | replace h77 := nrm5 h77 | replace h77 := nrm6 h77 | replace h77 := of_decide_eq_true h77 | replace h77 := of_decide_eq_false h77 | skip
                              refine st_skip 3 S rfl ?_; clear S a; intro a S
                              refine st_y S rfl rfl rfl (y_pickT S rfl rfl) ?_; clear S a; intro a S
                              refine wpList_nil ?_
                              replace S := S.sub [(0, _), (1, _), (2, _), (55, _), (73, _), (81, _)] rfl
                              refine then_normal ?_
                              refine st_condT S rfl ?_
                              refine wp_seq ?_
                              -- region 6 ref.go:63
                              refine wp_region_lit ?_
                              refine st_y S rfl rfl rfl (y_assign S rfl) ?_; clear S a; intro a S
                              refine wpList_nil ?_
                              replace S := S.sub [(0, _), (1, _), (55, _), (73, _), (81, _), (2, _)] rfl
                              refine then_normal ?_
                              refine wp_ret ?_
                              refine then_ret ?_
                              refine end_one S rfl (res_tmp rfl) ?_
                              exact ⟨ret_bool (mk _ (by simp; omega)), M.below⟩
                            · clear S; intro h77 S
                              first | replace h77 := nrmA h77 | replace h77 := nrmB h77 | skip
                              first | replace h77 := nrm1 h77 | replace h77 := nrm2 h77 | replace h77 := nrm3 h77 | replace h77 := nrm4 h77 | replace h77 := nrm5 h77 | replace h77 := nrm6 h77 | replace h77 := of_decide_eq_true h77 | replace h77 := of_decide_eq_false h77 | skip
                              refine st_y S rfl rfl rfl (y_fieldAddr (k := 0) S (by kernel_rfl) rfl) ?_; clear S a; intro a S
                              refine st_y S rfl rfl rfl (y_load S (by kernel_rfl) rfl (M.cell 0 rfl rfl)) ?_; clear S a; intro a S
                              refine st_y S rfl rfl rfl (y_int S rfl rfl rfl) ?_; clear S a; intro a S
                              refine st_y S rfl rfl rfl (y_pickF S rfl rfl) ?_; clear S a; intro a S
                              refine wpList_nil ?_
                              replace S := S.sub [(0, _), (1, _), (2, _), (55, _), (73, _), (81, _)] rfl
                              refine then_normal ?_
                              refine st_split (t := 81) S rfl ?_ ?_
                              · clear S; intro h81 S
                                first | replace h81 := nrmA h81 | replace h81 := nrmB h81 | skip
                                first | replace h81 := nrm1 h81 | replace h81 := nrm2 h81 | replace h81 := nrm3 h81 | replace h81 := nrm4 h81 | replace h81 := nrm5 h81 | replace h81 := nrm6 h81 | replace h81 := of_decide_eq_true h81 | replace h81 := of_decide_eq_false h81 | skip
                                refine st_condT S rfl ?_
                                refine wp_seq ?_
                                -- region 6 ref.go:63
                                refine wp_region_lit ?_
                                refine st_y S rfl rfl rfl (y_assign S rfl) ?_; clear S a; intro a S
                                refine wpList_nil ?_
                                replace S := S.sub [(0, _), (1, _), (55, _), (73, _), (81, _), (2, _)] rfl
                                refine then_normal ?_
                                refine wp_ret ?_
                                refine then_ret ?_
                                refine end_one S rfl (res_tmp rfl) ?_
                                exact ⟨ret_bool (mk _ (by simp; omega)), M.below⟩
                              · clear S; intro h81 S
                                first | replace h81 := nrmA h81 | replace h81 := nrmB h81 | skip
                                first | replace h81 := nrm1 h81 | replace h81 := nrm2 h81 | replace h81 := nrm3 h81 | replace h81 := nrm4 h81 | replace h81 := nrm5 h81 | replace h81 := nrm6 h81 | replace h81 := of_decide_eq_true h81 | replace h81 := of_decide_eq_false h81 | skip
                                refine st_condF S rfl ?_
                                refine wp_skip ?_
                                refine then_normal ?_
                                refine wp_seq ?_
                                refine wp_seq ?_
                                -- region 7 ref.go:65
                                refine wp_region_lit ?_
                                refine st_y S rfl rfl rfl (y_fieldAddr (k := 5) S (by kernel_rfl) rfl) ?_; clear S a; intro a S
                                refine st_y S rfl rfl rfl (y_loadAgg (cs := [_, _, _]) S (by kernel_rfl) rfl rfl (M.cellsAt (k := 3) 0 rfl rfl)) ?_; clear S a; intro a S
                                refine st_call (xs := [(Operand.tmp 83)]) S (enters_of Try.func19 (by decide) rfl) rfl rfl rfl (rNamed_any m.name _) ?_
                                rintro _ w14 ⟨rfl, hK⟩; refine ⟨_, rfl, ?_⟩; clear S a; intro a S; replace M := M.grow hK
                                refine st_y S rfl rfl rfl (y_not S rfl) ?_; clear S a; intro a S
                                refine wpList_nil ?_
                                replace S := S.sub [(0, _), (1, _), (2, _), (55, _), (73, _), (81, _), (85, _)] rfl
                                refine then_normal ?_
                                refine st_split (t := 85) S rfl ?_ ?_
                                · clear S; intro h85 S
                                  refine st_condT S rfl ?_
                                  refine wp_seq ?_
                                  -- region 8 ref.go:66
                                  refine wp_region_lit ?_
                                  refine st_y S rfl rfl rfl (y_assign S rfl) ?_; clear S a; intro a S
                                  refine wpList_nil ?_
                                  replace S := S.sub [(0, _), (1, _), (55, _), (73, _), (81, _), (85, _), (2, _)] rfl
                                  refine then_normal ?_
                                  refine wp_ret ?_
                                  refine then_ret ?_
                                  refine end_one S rfl (res_tmp rfl) ?_
                                  exact ⟨ret_bool (mk _ (by simp at h85; simp [h85]; omega)), M.below⟩
                                · clear S; intro h85 S
                                  refine st_condF S rfl ?_
                                  refine wp_skip ?_
                                  refine then_normal ?_
                                  refine wp_seq ?_
                                  refine wp_seq ?_
                                  -- region 9 ref.go:68
                                  have hn : m.name.named = true := by simpa using h85
                                  have mk2 : ∀ b : Bool, b = fKind m x → b = m.may x := fun b h => mk b (by
                                    rw [h]
                                    refine ⟨fun q => .inr (.inr ⟨hn, q⟩), fun q => ?_⟩
                                    rcases q with q | q | q
                                    · omega
                                    · omega
                                    · exact q.2)
                                  clear mk
                                  refine wp_region_lit ?_
                                  refine st_y S rfl rfl rfl (y_fieldAddr (k := 0) S (by kernel_rfl) rfl) ?_; clear S a; intro a S
                                  refine st_y S rfl rfl rfl (y_load S (by kernel_rfl) rfl (M.cell 0 rfl rfl)) ?_; clear S a; intro a S
                                  refine wpList_nil ?_
                                  replace S := S.sub [(0, _), (1, _), (2, _), (55, _), (73, _), (81, _), (85, _), (87, _)] rfl
                                  refine then_normal ?_
                                  refine wp_block ?_
                                  refine wp_seq ?_
                                  -- region 10 ref.go:69
                                  refine wp_region_lit ?_
                                  refine st_y S rfl rfl rfl (y_int S rfl rfl rfl) ?_; clear S a; intro a S
                                  refine st_y S rfl rfl rfl (y_assign S rfl) ?_; clear S a; intro a S
                                  refine wpList_nil ?_
                                  replace S := S.sub [(0, _), (1, _), (2, _), (55, _), (73, _), (81, _), (85, _), (87, _), (88, _)] rfl
                                  refine then_normal ?_
                                  refine st_split (t := 88) S rfl ?_ ?_
                                  · clear S; intro h88 S
                                    first | replace h88 := nrmA h88 | replace h88 := nrmB h88 | skip
                                    first | replace h88 := nrm1 h88 | replace h88 := nrm2 h88 | replace h88 := nrm3 h88 | replace h88 := nrm4 h88 | replace h88 := nrm5 h88 | replace h88 := nrm6 h88 | replace h88 := of_decide_eq_true h88 | replace h88 := of_decide_eq_false h88 | skip
                                    refine st_condT S rfl ?_
                                    refine wp_seq ?_
                                    -- region 11 ref.go:70
                                    refine wp_region_lit ?_
                                    refine st_y S rfl rfl rfl (y_fieldAddr (k := 8) S (by kernel_rfl) rfl) ?_; clear S a; intro a S
                                    refine st_y S rfl rfl rfl (y_load S (by kernel_rfl) rfl (M.cell 0 rfl rfl)) ?_; clear S a; intro a S
                                    refine st_y S rfl rfl rfl (y_int S rfl rfl rfl) ?_; clear S a; intro a S
                                    refine st_y S rfl rfl rfl (y_move S rfl) ?_; clear S a; intro a S
                                    refine st_split (t := 93) S rfl ?_ ?_
                                    · clear S; intro h93 S
                                      first | replace h93 := nrmA h93 | replace h93 := nrmB h93 | skip
                                      first | replace h93 := nrm1 h93 | replace h93 := nrm2 h93 | replace h93 := nrm3 h93 | replace h93 := nrm4 h93 | replace h93 := nrm5 h93 | replace h93 := nrm6 h93 | replace h93 := of_decide_eq_true h93 | replace h93 := of_decide_eq_false h93 | skip
                                      refine st_y S rfl rfl rfl (y_fieldAddr (k := 8) S (by kernel_rfl) rfl) ?_; clear S a; intro a S
                                      refine st_y S rfl rfl rfl (y_load S (by kernel_rfl) rfl (M.cell 0 rfl rfl)) ?_; clear S a; intro a S
                                      refine st_y S rfl rfl rfl (y_int S rfl rfl rfl) ?_; clear S a; intro a S
                                      refine st_y S rfl rfl rfl (y_pickT S rfl rfl) ?_; clear S a; intro a S
                                      refine st_y S rfl rfl rfl (y_move S rfl) ?_; clear S a; intro a S
                                      refine st_split (t := 98) S rfl ?_ ?_
                                      · clear S; intro h98 S
                                        first | replace h98 := nrmA h98 | replace h98 := nrmB h98 | skip
                                        first | replace h98 := nrm1 h98 | replace h98 := nrm2 h98 | replace h98 := nrm3 h98 | replace h98 := nrm4 h98 | replace h98 := nrm5 h98 | replace h98 := nrm6 h98 | replace h98 := of_decide_eq_true h98 | replace h98 := of_decide_eq_false h98 | skip
                                        refine st_y S rfl rfl rfl (y_fieldAddr (k := 9) S (by kernel_rfl) rfl) ?_; clear S a; intro a S
                                        refine st_y S rfl rfl rfl (y_load S (by kernel_rfl) rfl (M.cell 0 rfl rfl)) ?_; clear S a; intro a S
                                        refine st_y S rfl rfl rfl (y_int S rfl rfl rfl) ?_; clear S a; intro a S
                                        refine st_y S rfl rfl rfl (y_pickT S rfl rfl) ?_; clear S a; intro a S
                                        refine st_y S rfl rfl rfl (y_move S rfl) ?_; clear S a; intro a S
                                        refine st_split (t := 103) S rfl ?_ ?_
                                        · clear S; intro h103 S
                                          first | replace h103 := nrmA h103 | replace h103 := nrmB h103 | skip
                                          first | replace h103 := nrm1 h103 | replace h103 := nrm2 h103 | replace h103 := nrm3 h103 | replace h103 := nrm4 h103 | replace h103 := nrm5 h103 | replace h103 := nrm6 h103 | replace h103 := of_decide_eq_true h103 | replace h103 := of_decide_eq_false h103 | skip
                                          refine st_y S rfl rfl rfl (y_fieldAddr (k := 9) S (by kernel_rfl) rfl) ?_; clear S a; intro a S
                                          refine st_y S rfl rfl rfl (y_load S (by kernel_rfl) rfl (M.cell 0 rfl rfl)) ?_; clear S a; intro a S
                                          refine st_y S rfl rfl rfl (y_int S rfl rfl rfl) ?_; clear S a; intro a S
                                          refine st_y S rfl rfl rfl (y_pickT S rfl rfl) ?_; clear S a; intro a S
                                          refine st_y S rfl rfl rfl (y_move S rfl) ?_; clear S a; intro a S
                                          refine st_split (t := 108) S rfl ?_ ?_
                                          · clear S; intro h108 S
                                            first | replace h108 := nrmA h108 | replace h108 := nrmB h108 | skip
                                            first | replace h108 := nrm1 h108 | replace h108 := nrm2 h108 | replace h108 := nrm3 h108 | replace h108 := nrm4 h108 | replace h108 := nrm5 h108 | replace h108 := nrm6 h108 | replace h108 := of_decide_eq_true h108 | replace h108 := of_decide_eq_false h108 | skip
                                            refine st_y S rfl rfl rfl (y_fieldAddr (k := 10) S (by kernel_rfl) rfl) ?_; clear S a; intro a S
                                            refine st_y S rfl rfl rfl (y_load S (by kernel_rfl) rfl (M.cell 0 rfl rfl)) ?_; clear S a; intro a S
                                            refine st_y S rfl rfl rfl (y_int S rfl rfl rfl) ?_; clear S a; intro a S
                                            refine st_y S rfl rfl rfl (y_pickT S rfl rfl) ?_; clear S a; intro a S
                                            refine st_y S rfl rfl rfl (y_move S rfl) ?_; clear S a; intro a S
                                            refine st_split (t := 113) S rfl ?_ ?_
                                            · clear S; intro h113 S
                                              first | replace h113 := nrmA h113 | replace h113 := nrmB h113 | skip
                                              first | replace h113 := nrm1 h113 | replace h113 := nrm2 h113 | replace h113 := nrm3 h113 | replace h113 := nrm4 h113 | replace h113 := nrm5 h113 | replace h113 := nrm6 h113 | replace h113 := of_decide_eq_true h113 | replace h113 := of_decide_eq_false h113 | skip
                                              refine st_y S rfl rfl rfl (y_fieldAddr (k := 10) S (by kernel_rfl) rfl) ?_; clear S a; intro a S
                                              refine st_y S rfl rfl rfl (y_load S (by kernel_rfl) rfl (M.cell 0 rfl rfl)) ?_; clear S a; intro a S
                                              refine st_y S rfl rfl rfl (y_int S rfl rfl rfl) ?_; clear S a; intro a S
                                              refine st_y S rfl rfl rfl (y_pickT S rfl rfl) ?_; clear S a; intro a S
                                              refine st_y S rfl rfl rfl (y_assign S rfl) ?_; clear S a; intro a S
                                              refine wpList_nil ?_
                                              replace S := S.sub [(0, _), (1, _), (55, _), (73, _), (81, _), (85, _), (87, _), (88, _), (2, _)] rfl
                                              refine then_normal ?_
                                              refine wp_ret ?_
                                              refine block_ret ?_
                                              refine then_ret ?_
                                              refine end_one S rfl (res_tmp rfl) ?_
                                              refine ⟨ret_bool (mk2 _ ?_), M.below⟩; clear S M mk2; unfold fKind
                                              first
                                                | (rw [if_pos (by assumption), Bool.eq_iff_iff]; simp; done)
                                                | (rw [if_pos (by assumption), Bool.eq_iff_iff]; simp; omega)
                                                | (rw [if_neg (by omega), if_pos (by assumption), Bool.eq_iff_iff]; simp; done)
                                                | (rw [if_neg (by omega), if_pos (by assumption), Bool.eq_iff_iff]; simp; omega)
                                                | (rw [if_neg (by omega), if_neg (by omega), if_pos (by assumption)]; simp [*]; done)
                                                | (rw [if_neg (by omega), if_neg (by omega), if_neg (by omega), if_pos (by assumption), Bool.eq_iff_iff]; simp; done)
                                                | (rw [if_neg (by omega), if_neg (by omega), if_neg (by omega), if_pos (by assumption), Bool.eq_iff_iff]; simp; omega)
                                                | (rw [if_neg (by omega), if_neg (by omega), if_neg (by omega), if_neg (by omega)]; done)
                                            · clear S; intro h113 S
                                              first | replace h113 := nrmA h113 | replace h113 := nrmB h113 | skip
                                              first | replace h113 := nrm1 h113 | replace h113 := nrm2 h113 | replace h113 := nrm3 h113 | replace h113 := nrm4 h113 | replace h113 := nrm5 h113 | replace h113 := nrm6 h113 | replace h113 := of_decide_eq_true h113 | replace h113 := of_decide_eq_false h113 | skip
                                              refine st_skip 3 S rfl ?_; clear S a; intro a S
                                              refine st_y S rfl rfl rfl (y_pickF S rfl rfl) ?_; clear S a; intro a S
                                              refine st_y S rfl rfl rfl (y_assign S rfl) ?_; clear S a; intro a S
                                              refine wpList_nil ?_
                                              replace S := S.sub [(0, _), (1, _), (55, _), (73, _), (81, _), (85, _), (87, _), (88, _), (2, _)] rfl
                                              refine then_normal ?_
                                              refine wp_ret ?_
                                              refine block_ret ?_
                                              refine then_ret ?_
                                              refine end_one S rfl (res_tmp rfl) ?_
                                              refine ⟨ret_bool (mk2 _ ?_), M.below⟩; clear S M mk2; unfold fKind
                                              first
                                                | (rw [if_pos (by assumption), Bool.eq_iff_iff]; simp; done)
                                                | (rw [if_pos (by assumption), Bool.eq_iff_iff]; simp; omega)
                                                | (rw [if_neg (by omega), if_pos (by assumption), Bool.eq_iff_iff]; simp; done)
                                                | (rw [if_neg (by omega), if_pos (by assumption), Bool.eq_iff_iff]; simp; omega)
                                                | (rw [if_neg (by omega), if_neg (by omega), if_pos (by assumption)]; simp [*]; done)
                                                | (rw [if_neg (by omega), if_neg (by omega), if_neg (by omega), if_pos (by assumption), Bool.eq_iff_iff]; simp; done)
                                                | (rw [if_neg (by omega), if_neg (by omega), if_neg (by omega), if_pos (by assumption), Bool.eq_iff_iff]; simp; omega)
                                                | (rw [if_neg (by omega), if_neg (by omega), if_neg (by omega), if_neg (by omega)]; done)
                                          · clear S; intro h108 S
                                            first | replace h108 := nrmA h108 | replace h108 := nrmB h108 | skip
                                            first | replace h108 := nrm1 h108 | replace h108 := nrm2 h108 | replace h108 := nrm3 h108 | replace h108 := nrm4 h108 | replace h108 := nrm5 h108 | replace h108 := nrm6 h108 | replace h108 := of_decide_eq_true h108 | replace h108 := of_decide_eq_false h108 | skip
                                            refine st_skip 3 S rfl ?_; clear S a; intro a S
                                            refine st_y S rfl rfl rfl (y_pickF S rfl rfl) ?_; clear S a; intro a S
                                            refine st_y S rfl rfl rfl (y_move S rfl) ?_; clear S a; intro a S
                                            refine st_skip 3 S rfl ?_; clear S a; intro a S
                                            refine st_y S rfl rfl rfl (y_pickF S rfl rfl) ?_; clear S a; intro a S
                                            refine st_y S rfl rfl rfl (y_assign S rfl) ?_; clear S a; intro a S
                                            refine wpList_nil ?_
                                            replace S := S.sub [(0, _), (1, _), (55, _), (73, _), (81, _), (85, _), (87, _), (88, _), (2, _)] rfl
                                            refine then_normal ?_
                                            refine wp_ret ?_
                                            refine block_ret ?_
                                            refine then_ret ?_
                                            refine end_one S rfl (res_tmp rfl) ?_
                                            refine ⟨ret_bool (mk2 _ ?_), M.below⟩; clear S M mk2; unfold fKind
                                            first
                                              | (rw [if_pos (by assumption), Bool.eq_iff_iff]; simp; done)
                                              | (rw [if_pos (by assumption), Bool.eq_iff_iff]; simp; omega)
                                              | (rw [if_neg (by omega), if_pos (by assumption), Bool.eq_iff_iff]; simp; done)
                                              | (rw [if_neg (by omega), if_pos (by assumption), Bool.eq_iff_iff]; simp; omega)
                                              | (rw [if_neg (by omega), if_neg (by omega), if_pos (by assumption)]; simp [*]; done)
                                              | (rw [if_neg (by omega), if_neg (by omega), if_neg (by omega), if_pos (by assumption), Bool.eq_iff_iff]; simp; done)
                                              | (rw [if_neg (by omega), if_neg (by omega), if_neg (by omega), if_pos (by assumption), Bool.eq_iff_iff]; simp; omega)
                                              | (rw [if_neg (by omega), if_neg (by omega), if_neg (by omega), if_neg (by omega)]; done)
                                        · clear S; intro h103 S
                                          first | replace h103 := nrmA h103 | replace h103 := nrmB h103 | skip
                                          first | replace h103 := nrm1 h103 | replace h103 := nrm2 h103 | replace h103 := nrm3 h103 | replace h103 := nrm4 h103 | replace h103 := nrm5 h103 | replace h103 := nrm6 h103 | replace h103 := of_decide_eq_true h103 | replace h103 := of_decide_eq_false h103 | skip
                                          refine st_skip 3 S rfl ?_; clear S a; intro a S
                                          refine st_y S rfl rfl rfl (y_pickF S rfl rfl) ?_; clear S a; intro a S
                                          refine st_y S rfl rfl rfl (y_move S rfl) ?_; clear S a; intro a S
                                          refine st_skip 3 S rfl ?_; clear S a; intro a S
                                          refine st_y S rfl rfl rfl (y_pickF S rfl rfl) ?_; clear S a; intro a S
                                          refine st_y S rfl rfl rfl (y_move S rfl) ?_; clear S a; intro a S
                                          refine st_skip 3 S rfl ?_; clear S a; intro a S
                                          refine st_y S rfl rfl rfl (y_pickF S rfl rfl) ?_; clear S a; intro a S
                                          refine st_y S rfl rfl rfl (y_assign S rfl) ?_; clear S a; intro a S
                                          refine wpList_nil ?_
                                          replace S := S.sub [(0, _), (1, _), (55, _), (73, _), (81, _), (85, _), (87, _), (88, _), (2, _)] rfl
                                          refine then_normal ?_
                                          refine wp_ret ?_
                                          refine block_ret ?_
                                          refine then_ret ?_
                                          refine end_one S rfl (res_tmp rfl) ?_
                                          refine ⟨ret_bool (mk2 _ ?_), M.below⟩; clear S M mk2; unfold fKind
                                          first
                                            | (rw [if_pos (by assumption), Bool.eq_iff_iff]; simp; done)
                                            | (rw [if_pos (by assumption), Bool.eq_iff_iff]; simp; omega)
                                            | (rw [if_neg (by omega), if_pos (by assumption), Bool.eq_iff_iff]; simp; done)
                                            | (rw [if_neg (by omega), if_pos (by assumption), Bool.eq_iff_iff]; simp; omega)
                                            | (rw [if_neg (by omega), if_neg (by omega), if_pos (by assumption)]; simp [*]; done)
                                            | (rw [if_neg (by omega), if_neg (by omega), if_neg (by omega), if_pos (by assumption), Bool.eq_iff_iff]; simp; done)
                                            | (rw [if_neg (by omega), if_neg (by omega), if_neg (by omega), if_pos (by assumption), Bool.eq_iff_iff]; simp; omega)
                                            | (rw [if_neg (by omega), if_neg (by omega), if_neg (by omega), if_neg (by omega)]; done)
                                      · clear S; intro h98 S
                                        first | replace h98 := nrmA h98 | replace h98 := nrmB h98 | skip
                                        first | replace h98 := nrm1 h98 | replace h98 := nrm2 h98 | replace h98 := nrm3 h98 | replace h98 := nrm4 h98 | replace h98 := nrm5 h98 | replace h98 := nrm6 h98 | replace h98 := of_decide_eq_true h98 | replace h98 := of_decide_eq_false h98 | skip
                                        refine st_skip 3 S rfl ?_; clear S a; intro a S
                                        refine st_y S rfl rfl rfl (y_pickF S rfl rfl) ?_; clear S a; intro a S
                                        refine st_y S rfl rfl rfl (y_move S rfl) ?_; clear S a; intro a S
                                        refine st_skip 3 S rfl ?_; clear S a; intro a S
                                        refine st_y S rfl rfl rfl (y_pickF S rfl rfl) ?_; clear S a; intro a S
                                        refine st_y S rfl rfl rfl (y_move S rfl) ?_; clear S a; intro a S
                                        refine st_skip 3 S rfl ?_; clear S a; intro a S
                                        refine st_y S rfl rfl rfl (y_pickF S rfl rfl) ?_; clear S a; intro a S
                                        refine st_y S rfl rfl rfl (y_move S rfl) ?_; clear S a; intro a S
                                        refine st_skip 3 S rfl ?_; clear S a; intro a S
                                        refine st_y S rfl rfl rfl (y_pickF S rfl rfl) ?_; clear S a; intro a S
                                        refine st_y S rfl rfl rfl (y_assign S rfl) ?_; clear S a; intro a S
                                        refine wpList_nil ?_
                                        replace S := S.sub [(0, _), (1, _), (55, _), (73, _), (81, _), (85, _), (87, _), (88, _), (2, _)] rfl
                                        refine then_normal ?_
                                        refine wp_ret ?_
                                        refine block_ret ?_
                                        refine then_ret ?_
                                        refine end_one S rfl (res_tmp rfl) ?_
                                        refine ⟨ret_bool (mk2 _ ?_), M.below⟩; clear S M mk2; unfold fKind
                                        first
                                          | (rw [if_pos (by assumption), Bool.eq_iff_iff]; simp; done)
                                          | (rw [if_pos (by assumption), Bool.eq_iff_iff]; simp; omega)
                                          | (rw [if_neg (by omega), if_pos (by assumption), Bool.eq_iff_iff]; simp; done)
                                          | (rw [if_neg (by omega), if_pos (by assumption), Bool.eq_iff_iff]; simp; omega)
                                          | (rw [if_neg (by omega), if_neg (by omega), if_pos (by assumption)]; simp [*]; done)
                                          | (rw [if_neg (by omega), if_neg (by omega), if_neg (by omega), if_pos (by assumption), Bool.eq_iff_iff]; simp; done)
                                          | (rw [if_neg (by omega), if_neg (by omega), if_neg (by omega), if_pos (by assumption), Bool.eq_iff_iff]; simp; omega)
                                          | (rw [if_neg (by omega), if_neg (by omega), if_neg (by omega), if_neg (by omega)]; done)
                                    · clear S; intro h93 S
                                      first | replace h93 := nrmA h93 | replace h93 := nrmB h93 | skip
                                      first | replace h93 := nrm1 h93 | replace h93 := nrm2 h93 | replace h93 := nrm3 h93 | replace h93 := nrm4 h93 | replace h93 := nrm5 h93 | replace h93 := nrm6 h93 | replace h93 := of_decide_eq_true h93 | replace h93 := of_decide_eq_false h93 | skip
                                      refine st_skip 3 S rfl ?_; clear S a; intro a S
                                      refine st_y S rfl rfl rfl (y_pickF S rfl rfl) ?_; clear S a; intro a S
                                      refine st_y S rfl rfl rfl (y_move S rfl) ?_; clear S a; intro a S
                                      refine st_skip 3 S rfl ?_; clear S a; intro a S
                                      refine st_y S rfl rfl rfl (y_pickF S rfl rfl) ?_; clear S a; intro a S
                                      refine st_y S rfl rfl rfl (y_move S rfl) ?_; clear S a; intro a S
                                      refine st_skip 3 S rfl ?_; clear S a; intro a S
                                      refine st_y S rfl rfl rfl (y_pickF S rfl rfl) ?_; clear S a; intro a S
                                      refine st_y S rfl rfl rfl (y_move S rfl) ?_; clear S a; intro a S
                                      refine st_skip 3 S rfl ?_; clear S a; intro a S
                                      refine st_y S rfl rfl rfl (y_pickF S rfl rfl) ?_; clear S a; intro a S
                                      refine st_y S rfl rfl rfl (y_move S rfl) ?_; clear S a; intro a S
                                      refine st_skip 3 S rfl ?_; clear S a; intro a S
                                      refine st_y S rfl rfl rfl (y_pickF S rfl rfl) ?_; clear S a; intro a S
                                      refine st_y S rfl rfl rfl (y_assign S rfl) ?_; clear S a; intro a S
                                      refine wpList_nil ?_
                                      replace S := S.sub [(0, _), (1, _), (55, _), (73, _), (81, _), (85, _), (87, _), (88, _), (2, _)] rfl
                                      refine then_normal ?_
                                      refine wp_ret ?_
                                      refine block_ret ?_
                                      refine then_ret ?_
                                      refine end_one S rfl (res_tmp rfl) ?_
                                      refine ⟨ret_bool (mk2 _ ?_), M.below⟩; clear S M mk2; unfold fKind
                                      first
                                        | (rw [if_pos (by assumption), Bool.eq_iff_iff]; simp; done)
                                        | (rw [if_pos (by assumption), Bool.eq_iff_iff]; simp; omega)
                                        | (rw [if_neg (by omega), if_pos (by assumption), Bool.eq_iff_iff]; simp; done)
                                        | (rw [if_neg (by omega), if_pos (by assumption), Bool.eq_iff_iff]; simp; omega)
                                        | (rw [if_neg (by omega), if_neg (by omega), if_pos (by assumption)]; simp [*]; done)
                                        | (rw [if_neg (by omega), if_neg (by omega), if_neg (by omega), if_pos (by assumption), Bool.eq_iff_iff]; simp; done)
                                        | (rw [if_neg (by omega), if_neg (by omega), if_neg (by omega), if_pos (by assumption), Bool.eq_iff_iff]; simp; omega)
                                        | (rw [if_neg (by omega), if_neg (by omega), if_neg (by omega), if_neg (by omega)]; done)
                                  · clear S; intro h88 S
                                    first | replace h88 := nrmA h88 | replace h88 := nrmB h88 | skip
                                    first | replace h88 := nrm1 h88 | replace h88 := nrm2 h88 | replace h88 := nrm3 h88 | replace h88 := nrm4 h88 | replace h88 := nrm5 h88 | replace h88 := nrm6 h88 | replace h88 := of_decide_eq_true h88 | replace h88 := of_decide_eq_false h88 | skip
                                    refine st_condF S rfl ?_
                                    refine wp_seq ?_
                                    -- region 12 ref.go:71
                                    refine wp_region_lit ?_
                                    refine st_y S rfl rfl rfl (y_int S rfl rfl rfl) ?_; clear S a; intro a S
                                    refine st_y S rfl rfl rfl (y_assign S rfl) ?_; clear S a; intro a S
                                    refine wpList_nil ?_
                                    replace S := S.sub [(0, _), (1, _), (2, _), (55, _), (73, _), (81, _), (85, _), (87, _), (88, _), (118, _)] rfl
                                    refine then_normal ?_
                                    refine st_split (t := 118) S rfl ?_ ?_
                                    · clear S; intro h118 S
                                      first | replace h118 := nrmA h118 | replace h118 := nrmB h118 | skip
                                      first | replace h118 := nrm1 h118 | replace h118 := nrm2 h118 | replace h118 := nrm3 h118 | replace h118 := nrm4 h118 | replace h118 := nrm5 h118 | replace h118 := nrm6 h118 | replace h118 := of_decide_eq_true h118 | replace h118 := of_decide_eq_false h118 | skip
                                      refine st_condT S rfl ?_
                                      refine wp_seq ?_
                                      -- region 13 ref.go:72
                                      refine wp_region_lit ?_
                                      refine st_y S rfl rfl rfl (y_fieldAddr (k := 8) S (by kernel_rfl) rfl) ?_; clear S a; intro a S
                                      refine st_y S rfl rfl rfl (y_load S (by kernel_rfl) rfl (M.cell 0 rfl rfl)) ?_; clear S a; intro a S
                                      refine st_y S rfl rfl rfl (y_int S rfl rfl rfl) ?_; clear S a; intro a S
                                      refine st_y S rfl rfl rfl (y_move S rfl) ?_; clear S a; intro a S
                                      refine st_split (t := 123) S rfl ?_ ?_
                                      · clear S; intro h123 S
                                        first | replace h123 := nrmA h123 | replace h123 := nrmB h123 | skip
                                        first | replace h123 := nrm1 h123 | replace h123 := nrm2 h123 | replace h123 := nrm3 h123 | replace h123 := nrm4 h123 | replace h123 := nrm5 h123 | replace h123 := nrm6 h123 | replace h123 := of_decide_eq_true h123 | replace h123 := of_decide_eq_false h123 | skip
                                        refine st_y S rfl rfl rfl (y_fieldAddr (k := 8) S (by kernel_rfl) rfl) ?_; clear S a; intro a S
                                        refine st_y S rfl rfl rfl (y_load S (by kernel_rfl) rfl (M.cell 0 rfl rfl)) ?_; clear S a; intro a S
                                        refine st_y S rfl rfl rfl (y_int S rfl rfl rfl) ?_; clear S a; intro a S
                                        refine st_y S rfl rfl rfl (y_pickT S rfl rfl) ?_; clear S a; intro a S
                                        refine st_y S rfl rfl rfl (y_move S rfl) ?_; clear S a; intro a S
                                        refine st_split (t := 128) S rfl ?_ ?_
                                        · clear S; intro h128 S
                                          first | replace h128 := nrmA h128 | replace h128 := nrmB h128 | skip
                                          first | replace h128 := nrm1 h128 | replace h128 := nrm2 h128 | replace h128 := nrm3 h128 | replace h128 := nrm4 h128 | replace h128 := nrm5 h128 | replace h128 := nrm6 h128 | replace h128 := of_decide_eq_true h128 | replace h128 := of_decide_eq_false h128 | skip
                                          refine st_y S rfl rfl rfl (y_fieldAddr (k := 19) S (by kernel_rfl) rfl) ?_; clear S a; intro a S
                                          refine st_y S rfl rfl rfl (y_load S (by kernel_rfl) rfl (M.cell 0 rfl rfl)) ?_; clear S a; intro a S
                                          refine st_y S rfl rfl rfl (y_int S rfl rfl rfl) ?_; clear S a; intro a S
                                          refine st_y S rfl rfl rfl (y_move S rfl) ?_; clear S a; intro a S
                                          refine st_split (t := 132) S rfl ?_ ?_
                                          · clear S; intro h132 S
                                            first | replace h132 := nrmA h132 | replace h132 := nrmB h132 | skip
                                            first | replace h132 := nrm1 h132 | replace h132 := nrm2 h132 | replace h132 := nrm3 h132 | replace h132 := nrm4 h132 | replace h132 := nrm5 h132 | replace h132 := nrm6 h132 | replace h132 := of_decide_eq_true h132 | replace h132 := of_decide_eq_false h132 | skip
                                            refine st_skip 3 S rfl ?_; clear S a; intro a S
                                            refine st_y S rfl rfl rfl (y_pickT S rfl rfl) ?_; clear S a; intro a S
                                            refine st_y S rfl rfl rfl (y_move S rfl) ?_; clear S a; intro a S
                                            refine st_skip 3 S rfl ?_; clear S a; intro a S
                                            refine st_y S rfl rfl rfl (y_pickT S rfl rfl) ?_; clear S a; intro a S
                                            refine st_y S rfl rfl rfl (y_move S rfl) ?_; clear S a; intro a S
                                            refine st_skip 3 S rfl ?_; clear S a; intro a S
                                            refine st_y S rfl rfl rfl (y_pickT S rfl rfl) ?_; clear S a; intro a S
                                            refine st_y S rfl rfl rfl (y_move S rfl) ?_; clear S a; intro a S
                                            refine st_skip 3 S rfl ?_; clear S a; intro a S
                                            refine st_y S rfl rfl rfl (y_pickT S rfl rfl) ?_; clear S a; intro a S
                                            refine st_y S rfl rfl rfl (y_pickT S rfl rfl) ?_; clear S a; intro a S
                                            refine st_y S rfl rfl rfl (y_assign S rfl) ?_; clear S a; intro a S
                                            refine wpList_nil ?_
                                            replace S := S.sub [(0, _), (1, _), (55, _), (73, _), (81, _), (85, _), (87, _), (88, _), (118, _), (2, _)] rfl
                                            refine then_normal ?_
                                            refine wp_ret ?_
                                            refine block_ret ?_
                                            refine then_ret ?_
                                            refine end_one S rfl (res_tmp rfl) ?_
                                            refine ⟨ret_bool (mk2 _ ?_), M.below⟩; clear S M mk2; unfold fKind
                                            first
                                              | (rw [if_pos (by assumption), Bool.eq_iff_iff]; simp; done)
                                              | (rw [if_pos (by assumption), Bool.eq_iff_iff]; simp; omega)
                                              | (rw [if_neg (by omega), if_pos (by assumption), Bool.eq_iff_iff]; simp; done)
                                              | (rw [if_neg (by omega), if_pos (by assumption), Bool.eq_iff_iff]; simp; omega)
                                              | (rw [if_neg (by omega), if_neg (by omega), if_pos (by assumption)]; simp [*]; done)
                                              | (rw [if_neg (by omega), if_neg (by omega), if_neg (by omega), if_pos (by assumption), Bool.eq_iff_iff]; simp; done)
                                              | (rw [if_neg (by omega), if_neg (by omega), if_neg (by omega), if_pos (by assumption), Bool.eq_iff_iff]; simp; omega)
                                              | (rw [if_neg (by omega), if_neg (by omega), if_neg (by omega), if_neg (by omega)]; done)
                                          · clear S; intro h132 S
                                            first | replace h132 := nrmA h132 | replace h132 := nrmB h132 | skip
                                            first | replace h132 := nrm1 h132 | replace h132 := nrm2 h132 | replace h132 := nrm3 h132 | replace h132 := nrm4 h132 | replace h132 := nrm5 h132 | replace h132 := nrm6 h132 | replace h132 := of_decide_eq_true h132 | replace h132 := of_decide_eq_false h132 | skip
                                            refine st_y S rfl rfl rfl (y_fieldAddr (k := 19) S (by kernel_rfl) rfl) ?_; clear S a; intro a S
                                            refine st_y S rfl rfl rfl (y_load S (by kernel_rfl) rfl (M.cell 0 rfl rfl)) ?_; clear S a; intro a S
                                            refine st_y S rfl rfl rfl (y_int S rfl rfl rfl) ?_; clear S a; intro a S
                                            refine st_y S rfl rfl rfl (y_pickF S rfl rfl) ?_; clear S a; intro a S
                                            refine st_y S rfl rfl rfl (y_move S rfl) ?_; clear S a; intro a S
                                            refine st_split (t := 137) S rfl ?_ ?_
                                            · clear S; intro h137 S
                                              first | replace h137 := nrmA h137 | replace h137 := nrmB h137 | skip
                                              first | replace h137 := nrm1 h137 | replace h137 := nrm2 h137 | replace h137 := nrm3 h137 | replace h137 := nrm4 h137 | replace h137 := nrm5 h137 | replace h137 := nrm6 h137 | replace h137 := of_decide_eq_true h137 | replace h137 := of_decide_eq_false h137 | skip
                                              refine st_skip 3 S rfl ?_; clear S a; intro a S
                                              refine st_y S rfl rfl rfl (y_pickT S rfl rfl) ?_; clear S a; intro a S
                                              refine st_y S rfl rfl rfl (y_move S rfl) ?_; clear S a; intro a S
                                              refine st_skip 3 S rfl ?_; clear S a; intro a S
                                              refine st_y S rfl rfl rfl (y_pickT S rfl rfl) ?_; clear S a; intro a S
                                              refine st_y S rfl rfl rfl (y_move S rfl) ?_; clear S a; intro a S
                                              refine st_skip 3 S rfl ?_; clear S a; intro a S
                                              refine st_y S rfl rfl rfl (y_pickT S rfl rfl) ?_; clear S a; intro a S
                                              refine st_y S rfl rfl rfl (y_pickT S rfl rfl) ?_; clear S a; intro a S
                                              refine st_y S rfl rfl rfl (y_assign S rfl) ?_; clear S a; intro a S
                                              refine wpList_nil ?_
                                              replace S := S.sub [(0, _), (1, _), (55, _), (73, _), (81, _), (85, _), (87, _), (88, _), (118, _), (2, _)] rfl
                                              refine then_normal ?_
                                              refine wp_ret ?_
                                              refine block_ret ?_
                                              refine then_ret ?_
                                              refine end_one S rfl (res_tmp rfl) ?_
                                              refine ⟨ret_bool (mk2 _ ?_), M.below⟩; clear S M mk2; unfold fKind
                                              first
                                                | (rw [if_pos (by assumption), Bool.eq_iff_iff]; simp; done)
                                                | (rw [if_pos (by assumption), Bool.eq_iff_iff]; simp; omega)
                                                | (rw [if_neg (by omega), if_pos (by assumption), Bool.eq_iff_iff]; simp; done)
                                                | (rw [if_neg (by omega), if_pos (by assumption), Bool.eq_iff_iff]; simp; omega)
                                                | (rw [if_neg (by omega), if_neg (by omega), if_pos (by assumption)]; simp [*]; done)
                                                | (rw [if_neg (by omega), if_neg (by omega), if_neg (by omega), if_pos (by assumption), Bool.eq_iff_iff]; simp; done)
                                                | (rw [if_neg (by omega), if_neg (by omega), if_neg (by omega), if_pos (by assumption), Bool.eq_iff_iff]; simp; omega)
                                                | (rw [if_neg (by omega), if_neg (by omega), if_neg (by omega), if_neg (by omega)]; done)
                                            · clear S; intro h137 S
                                              first | replace h137 := nrmA h137 | replace h137 := nrmB h137 | skip
                                              first | replace h137 := nrm1 h137 | replace h137 := nrm2 h137 | replace h137 := nrm3 h137 | replace h137 := nrm4 h137 | replace h137 := nrm5 h137 | replace h137 := nrm6 h137 | replace h137 := of_decide_eq_true h137 | replace h137 := of_decide_eq_false h137 | skip
                                              refine st_y S rfl rfl rfl (y_fieldAddr (k := 19) S (by kernel_rfl) rfl) ?_; clear S a; intro a S
                                              refine st_y S rfl rfl rfl (y_load S (by kernel_rfl) rfl (M.cell 0 rfl rfl)) ?_; clear S a; intro a S
                                              refine st_y S rfl rfl rfl (y_int S rfl rfl rfl) ?_; clear S a; intro a S
                                              refine st_y S rfl rfl rfl (y_pickF S rfl rfl) ?_; clear S a; intro a S
                                              refine st_y S rfl rfl rfl (y_move S rfl) ?_; clear S a; intro a S
                                              refine st_split (t := 142) S rfl ?_ ?_
                                              · clear S; intro h142 S
                                                first | replace h142 := nrmA h142 | replace h142 := nrmB h142 | skip
                                                first | replace h142 := nrm1 h142 | replace h142 := nrm2 h142 | replace h142 := nrm3 h142 | replace h142 := nrm4 h142 | replace h142 := nrm5 h142 | replace h142 := nrm6 h142 | replace h142 := of_decide_eq_true h142 | replace h142 := of_decide_eq_false h142 | skip
                                                refine st_skip 3 S rfl ?_; clear S a; intro a S
                                                refine st_y S rfl rfl rfl (y_pickT S rfl rfl) ?_; clear S a; intro a S
                                                refine st_y S rfl rfl rfl (y_move S rfl) ?_; clear S a; intro a S
                                                refine st_skip 3 S rfl ?_; clear S a; intro a S
                                                refine st_y S rfl rfl rfl (y_pickT S rfl rfl) ?_; clear S a; intro a S
                                                refine st_y S rfl rfl rfl (y_pickT S rfl rfl) ?_; clear S a; intro a S
                                                refine st_y S rfl rfl rfl (y_assign S rfl) ?_; clear S a; intro a S
                                                refine wpList_nil ?_
                                                replace S := S.sub [(0, _), (1, _), (55, _), (73, _), (81, _), (85, _), (87, _), (88, _), (118, _), (2, _)] rfl
                                                refine then_normal ?_
                                                refine wp_ret ?_
                                                refine block_ret ?_
                                                refine then_ret ?_
                                                refine end_one S rfl (res_tmp rfl) ?_
                                                refine ⟨ret_bool (mk2 _ ?_), M.below⟩; clear S M mk2; unfold fKind
                                                first
                                                  | (rw [if_pos (by assumption), Bool.eq_iff_iff]; simp; done)
                                                  | (rw [if_pos (by assumption), Bool.eq_iff_iff]; simp; omega)
                                                  | (rw [if_neg (by omega), if_pos (by assumption), Bool.eq_iff_iff]; simp; done)
                                                  | (rw [if_neg (by omega), if_pos (by assumption), Bool.eq_iff_iff]; simp; omega)
                                                  | (rw [if_neg (by omega), if_neg (by omega), if_pos (by assumption)]; simp [*]; done)
                                                  | (rw [if_neg (by omega), if_neg (by omega), if_neg (by omega), if_pos (by assumption), Bool.eq_iff_iff]; simp; done)
                                                  | (rw [if_neg (by omega), if_neg (by omega), if_neg (by omega), if_pos (by assumption), Bool.eq_iff_iff]; simp; omega)
                                                  | (rw [if_neg (by omega), if_neg (by omega), if_neg (by omega), if_neg (by omega)]; done)
                                              · clear S; intro h142 S
                                                first | replace h142 := nrmA h142 | replace h142 := nrmB h142 | skip
                                                first | replace h142 := nrm1 h142 | replace h142 := nrm2 h142 | replace h142 := nrm3 h142 | replace h142 := nrm4 h142 | replace h142 := nrm5 h142 | replace h142 := nrm6 h142 | replace h142 := of_decide_eq_true h142 | replace h142 := of_decide_eq_false h142 | skip
                                                refine st_y S rfl rfl rfl (y_fieldAddr (k := 19) S (by kernel_rfl) rfl) ?_; clear S a; intro a S
                                                refine st_y S rfl rfl rfl (y_load S (by kernel_rfl) rfl (M.cell 0 rfl rfl)) ?_; clear S a; intro a S
                                                refine st_y S rfl rfl rfl (y_int S rfl rfl rfl) ?_; clear S a; intro a S
                                                refine st_y S rfl rfl rfl (y_pickF S rfl rfl) ?_; clear S a; intro a S
                                                refine st_y S rfl rfl rfl (y_move S rfl) ?_; clear S a; intro a S
                                                refine st_split (t := 147) S rfl ?_ ?_
                                                · clear S; intro h147 S
                                                  first | replace h147 := nrmA h147 | replace h147 := nrmB h147 | skip
                                                  first | replace h147 := nrm1 h147 | replace h147 := nrm2 h147 | replace h147 := nrm3 h147 | replace h147 := nrm4 h147 | replace h147 := nrm5 h147 | replace h147 := nrm6 h147 | replace h147 := of_decide_eq_true h147 | replace h147 := of_decide_eq_false h147 | skip
                                                  refine st_skip 3 S rfl ?_; clear S a; intro a S
                                                  refine st_y S rfl rfl rfl (y_pickT S rfl rfl) ?_; clear S a; intro a S
                                                  refine st_y S rfl rfl rfl (y_pickT S rfl rfl) ?_; clear S a; intro a S
                                                  refine st_y S rfl rfl rfl (y_assign S rfl) ?_; clear S a; intro a S
                                                  refine wpList_nil ?_
                                                  replace S := S.sub [(0, _), (1, _), (55, _), (73, _), (81, _), (85, _), (87, _), (88, _), (118, _), (2, _)] rfl
                                                  refine then_normal ?_
                                                  refine wp_ret ?_
                                                  refine block_ret ?_
                                                  refine then_ret ?_
                                                  refine end_one S rfl (res_tmp rfl) ?_
                                                  refine ⟨ret_bool (mk2 _ ?_), M.below⟩; clear S M mk2; unfold fKind
                                                  first
                                                    | (rw [if_pos (by assumption), Bool.eq_iff_iff]; simp; done)
                                                    | (rw [if_pos (by assumption), Bool.eq_iff_iff]; simp; omega)
                                                    | (rw [if_neg (by omega), if_pos (by assumption), Bool.eq_iff_iff]; simp; done)
                                                    | (rw [if_neg (by omega), if_pos (by assumption), Bool.eq_iff_iff]; simp; omega)
                                                    | (rw [if_neg (by omega), if_neg (by omega), if_pos (by assumption)]; simp [*]; done)
                                                    | (rw [if_neg (by omega), if_neg (by omega), if_neg (by omega), if_pos (by assumption), Bool.eq_iff_iff]; simp; done)
                                                    | (rw [if_neg (by omega), if_neg (by omega), if_neg (by omega), if_pos (by assumption), Bool.eq_iff_iff]; simp; omega)
                                                    | (rw [if_neg (by omega), if_neg (by omega), if_neg (by omega), if_neg (by omega)]; done)
                                                · clear S; intro h147 S
                                                  first | replace h147 := nrmA h147 | replace h147 := nrmB h147 | skip
                                                  first | replace h147 := nrm1 h147 | replace h147 := nrm2 h147 | replace h147 := nrm3 h147 | replace h147 := nrm4 h147 | replace h147 := nrm5 h147 | replace h147 := nrm6 h147 | replace h147 := of_decide_eq_true h147 | replace h147 := of_decide_eq_false h147 | skip
                                                  refine st_y S rfl rfl rfl (y_fieldAddr (k := 19) S (by kernel_rfl) rfl) ?_; clear S a; intro a S
                                                  refine st_y S rfl rfl rfl (y_load S (by kernel_rfl) rfl (M.cell 0 rfl rfl)) ?_; clear S a; intro a S
                                                  refine st_y S rfl rfl rfl (y_int S rfl rfl rfl) ?_; clear S a; intro a S
                                                  refine st_y S rfl rfl rfl (y_pickF S rfl rfl) ?_; clear S a; intro a S
                                                  refine st_y S rfl rfl rfl (y_pickT S rfl rfl) ?_; clear S a; intro a S
                                                  refine st_y S rfl rfl rfl (y_assign S rfl) ?_; clear S a; intro a S
                                                  refine wpList_nil ?_
                                                  replace S := S.sub [(0, _), (1, _), (55, _), (73, _), (81, _), (85, _), (87, _), (88, _), (118, _), (2, _)] rfl
                                                  refine then_normal ?_
                                                  refine wp_ret ?_
                                                  refine block_ret ?_
                                                  refine then_ret ?_
                                                  refine end_one S rfl (res_tmp rfl) ?_
                                                  refine ⟨ret_bool (mk2 _ ?_), M.below⟩; clear S M mk2; unfold fKind
                                                  first
                                                    | (rw [if_pos (by assumption), Bool.eq_iff_iff]; simp; done)
                                                    | (rw [if_pos (by assumption), Bool.eq_iff_iff]; simp; omega)
                                                    | (rw [if_neg (by omega), if_pos (by assumption), Bool.eq_iff_iff]; simp; done)
                                                    | (rw [if_neg (by omega), if_pos (by assumption), Bool.eq_iff_iff]; simp; omega)
                                                    | (rw [if_neg (by omega), if_neg (by omega), if_pos (by assumption)]; simp [*]; done)
                                                    | (rw [if_neg (by omega), if_neg (by omega), if_neg (by omega), if_pos (by assumption), Bool.eq_iff_iff]; simp; done)
                                                    | (rw [if_neg (by omega), if_neg (by omega), if_neg (by omega), if_pos (by assumption), Bool.eq_iff_iff]; simp; omega)
                                                    | (rw [if_neg (by omega), if_neg (by omega), if_neg (by omega), if_neg (by omega)]; done)
                                        · clear S; intro h128 S
                                          first | replace h128 := nrmA h128 | replace h128 := nrmB h128 | skip
                                          first | replace h128 := nrm1 h128 | replace h128 := nrm2 h128 | replace h128 := nrm3 h128 | replace h128 := nrm4 h128 | replace h128 := nrm5 h128 | replace h128 := nrm6 h128 | replace h128 := of_decide_eq_true h128 | replace h128 := of_decide_eq_false h128 | skip
                                          refine st_skip 3 S rfl ?_; clear S a; intro a S
                                          refine st_no S rfl rfl rfl ?_; clear S a; intro a S
                                          refine st_skip 4 S rfl ?_; clear S a; intro a S
                                          refine st_no S rfl rfl rfl ?_; clear S a; intro a S
                                          refine st_skip 4 S rfl ?_; clear S a; intro a S
                                          refine st_no S rfl rfl rfl ?_; clear S a; intro a S
                                          refine st_skip 4 S rfl ?_; clear S a; intro a S
                                          refine st_no S rfl rfl rfl ?_; clear S a; intro a S
                                          refine st_skip 4 S rfl ?_; clear S a; intro a S
                                          refine st_y S rfl rfl rfl (y_pickF S rfl rfl) ?_; clear S a; intro a S
                                          refine st_y S rfl rfl rfl (y_assign S rfl) ?_; clear S a; intro a S
                                          refine wpList_nil ?_
                                          replace S := S.sub [(0, _), (1, _), (55, _), (73, _), (81, _), (85, _), (87, _), (88, _), (118, _), (2, _)] rfl
                                          refine then_normal ?_
                                          refine wp_ret ?_
                                          refine block_ret ?_
                                          refine then_ret ?_
                                          refine end_one S rfl (res_tmp rfl) ?_
                                          refine ⟨ret_bool (mk2 _ ?_), M.below⟩; clear S M mk2; unfold fKind
                                          first
                                            | (rw [if_pos (by assumption), Bool.eq_iff_iff]; simp; done)
                                            | (rw [if_pos (by assumption), Bool.eq_iff_iff]; simp; omega)
                                            | (rw [if_neg (by omega), if_pos (by assumption), Bool.eq_iff_iff]; simp; done)
                                            | (rw [if_neg (by omega), if_pos (by assumption), Bool.eq_iff_iff]; simp; omega)
                                            | (rw [if_neg (by omega), if_neg (by omega), if_pos (by assumption)]; simp [*]; done)
                                            | (rw [if_neg (by omega), if_neg (by omega), if_neg (by omega), if_pos (by assumption), Bool.eq_iff_iff]; simp; done)
                                            | (rw [if_neg (by omega), if_neg (by omega), if_neg (by omega), if_pos (by assumption), Bool.eq_iff_iff]; simp; omega)
                                            | (rw [if_neg (by omega), if_neg (by omega), if_neg (by omega), if_neg (by omega)]; done)
                                      · clear S; intro h123 S
                                        first | replace h123 := nrmA h123 | replace h123 := nrmB h123 | skip
                                        first | replace h123 := nrm1 h123 | replace h123 := nrm2 h123 | replace h123 := nrm3 h123 | replace h123 := nrm4 h123 | replace h123 := nrm5 h123 | replace h123 := nrm6 h123 | replace h123 := of_decide_eq_true h123 | replace h123 := of_decide_eq_false h123 | skip
                                        refine st_skip 3 S rfl ?_; clear S a; intro a S
                                        refine st_y S rfl rfl rfl (y_pickF S rfl rfl) ?_; clear S a; intro a S
                                        refine st_y S rfl rfl rfl (y_move S rfl) ?_; clear S a; intro a S
                                        refine st_skip 3 S rfl ?_; clear S a; intro a S
                                        refine st_no S rfl rfl rfl ?_; clear S a; intro a S
                                        refine st_skip 4 S rfl ?_; clear S a; intro a S
                                        refine st_no S rfl rfl rfl ?_; clear S a; intro a S
                                        refine st_skip 4 S rfl ?_; clear S a; intro a S
                                        refine st_no S rfl rfl rfl ?_; clear S a; intro a S
                                        refine st_skip 4 S rfl ?_; clear S a; intro a S
                                        refine st_no S rfl rfl rfl ?_; clear S a; intro a S
                                        refine st_skip 4 S rfl ?_; clear S a; intro a S
                                        refine st_y S rfl rfl rfl (y_pickF S rfl rfl) ?_; clear S a; intro a S
                                        refine st_y S rfl rfl rfl (y_assign S rfl) ?_; clear S a; intro a S
                                        refine wpList_nil ?_
                                        replace S := S.sub [(0, _), (1, _), (55, _), (73, _), (81, _), (85, _), (87, _), (88, _), (118, _), (2, _)] rfl
                                        refine then_normal ?_
                                        refine wp_ret ?_
                                        refine block_ret ?_
                                        refine then_ret ?_
                                        refine end_one S rfl (res_tmp rfl) ?_
                                        refine ⟨ret_bool (mk2 _ ?_), M.below⟩; clear S M mk2; unfold fKind
                                        first
                                          | (rw [if_pos (by assumption), Bool.eq_iff_iff]; simp; done)
                                          | (rw [if_pos (by assumption), Bool.eq_iff_iff]; simp; omega)
                                          | (rw [if_neg (by omega), if_pos (by assumption), Bool.eq_iff_iff]; simp; done)
                                          | (rw [if_neg (by omega), if_pos (by assumption), Bool.eq_iff_iff]; simp; omega)
                                          | (rw [if_neg (by omega), if_neg (by omega), if_pos (by assumption)]; simp [*]; done)
                                          | (rw [if_neg (by omega), if_neg (by omega), if_neg (by omega), if_pos (by assumption), Bool.eq_iff_iff]; simp; done)
                                          | (rw [if_neg (by omega), if_neg (by omega), if_neg (by omega), if_pos (by assumption), Bool.eq_iff_iff]; simp; omega)
                                          | (rw [if_neg (by omega), if_neg (by omega), if_neg (by omega), if_neg (by omega)]; done)
                                    · clear S; intro h118 S
                                      first | replace h118 := nrmA h118 | replace h118 := nrmB h118 | skip
                                      first | replace h118 := nrm1 h118 | replace h118 := nrm2 h118 | replace h118 := nrm3 h118 | replace h118 := nrm4 h118 | replace h118 := nrm5 h118 | replace h118 := nrm6 h118 | replace h118 := of_decide_eq_true h118 | replace h118 := of_decide_eq_false h118 | skip
                                      refine st_condF S rfl ?_
                                      refine wp_seq ?_
                                      -- region 14 ref.go:73
                                      refine wp_region_lit ?_
                                      refine st_y S rfl rfl rfl (y_int S rfl rfl rfl) ?_; clear S a; intro a S
                                      refine st_y S rfl rfl rfl (y_assign S rfl) ?_; clear S a; intro a S
                                      refine wpList_nil ?_
                                      replace S := S.sub [(0, _), (1, _), (2, _), (55, _), (73, _), (81, _), (85, _), (87, _), (88, _), (118, _), (153, _)] rfl
                                      refine then_normal ?_
                                      refine st_split (t := 153) S rfl ?_ ?_
                                      · clear S; intro h153 S
                                        first | replace h153 := nrmA h153 | replace h153 := nrmB h153 | skip
                                        first | replace h153 := nrm1 h153 | replace h153 := nrm2 h153 | replace h153 := nrm3 h153 | replace h153 := nrm4 h153 | replace h153 := nrm5 h153 | replace h153 := nrm6 h153 | replace h153 := of_decide_eq_true h153 | replace h153 := of_decide_eq_false h153 | skip
                                        refine st_condT S rfl ?_
                                        refine wp_seq ?_
                                        -- region 15 ref.go:74
                                        refine wp_region_lit ?_
                                        refine st_y S rfl rfl rfl (y_fieldAddr (k := 21) S (by kernel_rfl) rfl) ?_; clear S a; intro a S
                                        refine st_y S rfl rfl rfl (y_load S (by kernel_rfl) rfl (M.cell 0 rfl rfl)) ?_; clear S a; intro a S
                                        refine st_y S rfl rfl rfl (y_fieldAddr (k := 22) S (by kernel_rfl) rfl) ?_; clear S a; intro a S
                                        refine st_y S rfl rfl rfl (y_load S (by kernel_rfl) rfl (M.cell 0 rfl rfl)) ?_; clear S a; intro a S
                                        refine st_call (xs := [(Operand.tmp 156), (Operand.tmp 158)]) S (enters_of Try.func20 (by decide) rfl) rfl rfl rfl (given_any _ _ _) ?_
                                        rintro _ w15 ⟨rfl, hK⟩; refine ⟨_, rfl, ?_⟩; clear S a; intro a S; replace M := M.grow hK
                                        refine st_y S rfl rfl rfl (y_move S rfl) ?_; clear S a; intro a S
                                        refine st_split (t := 160) S rfl ?_ ?_
                                        · clear S; intro h160 S
                                          refine st_y S rfl rfl rfl (y_fieldAddr (k := 23) S (by kernel_rfl) rfl) ?_; clear S a; intro a S
                                          refine st_y S rfl rfl rfl (y_load S (by kernel_rfl) rfl (M.cell 0 rfl rfl)) ?_; clear S a; intro a S
                                          refine st_call (xs := [(Operand.tmp 162)]) S (enters_of Try.func21 (by decide) rfl) rfl rfl rfl (rWritten_any _ x _ (M.argW hv)) ?_
                                          rintro _ w16 ⟨rfl, hK⟩; refine ⟨_, rfl, ?_⟩; clear S a; intro a S; replace M := M.grow hK
                                          refine st_y S rfl rfl rfl (y_pickT S rfl rfl) ?_; clear S a; intro a S
                                          refine st_y S rfl rfl rfl (y_assign S rfl) ?_; clear S a; intro a S
                                          refine wpList_nil ?_
                                          replace S := S.sub [(0, _), (1, _), (55, _), (73, _), (81, _), (85, _), (87, _), (88, _), (118, _), (153, _), (2, _)] rfl
                                          refine then_normal ?_
                                          refine wp_ret ?_
                                          refine block_ret ?_
                                          refine then_ret ?_
                                          refine end_one S rfl (res_tmp rfl) ?_
                                          refine ⟨ret_bool (mk2 _ ?_), M.below⟩; clear S M mk2; unfold fKind
                                          first
                                            | (rw [if_pos (by assumption), Bool.eq_iff_iff]; simp; done)
                                            | (rw [if_pos (by assumption), Bool.eq_iff_iff]; simp; omega)
                                            | (rw [if_neg (by omega), if_pos (by assumption), Bool.eq_iff_iff]; simp; done)
                                            | (rw [if_neg (by omega), if_pos (by assumption), Bool.eq_iff_iff]; simp; omega)
                                            | (rw [if_neg (by omega), if_neg (by omega), if_pos (by assumption)]; simp [*]; done)
                                            | (rw [if_neg (by omega), if_neg (by omega), if_neg (by omega), if_pos (by assumption), Bool.eq_iff_iff]; simp; done)
                                            | (rw [if_neg (by omega), if_neg (by omega), if_neg (by omega), if_pos (by assumption), Bool.eq_iff_iff]; simp; omega)
                                            | (rw [if_neg (by omega), if_neg (by omega), if_neg (by omega), if_neg (by omega)]; done)
                                        · clear S; intro h160 S
                                          refine st_skip 3 S rfl ?_; clear S a; intro a S
                                          refine st_y S rfl rfl rfl (y_pickF S rfl rfl) ?_; clear S a; intro a S
                                          refine st_y S rfl rfl rfl (y_assign S rfl) ?_; clear S a; intro a S
                                          refine wpList_nil ?_
                                          replace S := S.sub [(0, _), (1, _), (55, _), (73, _), (81, _), (85, _), (87, _), (88, _), (118, _), (153, _), (2, _)] rfl
                                          refine then_normal ?_
                                          refine wp_ret ?_
                                          refine block_ret ?_
                                          refine then_ret ?_
                                          refine end_one S rfl (res_tmp rfl) ?_
                                          refine ⟨ret_bool (mk2 _ ?_), M.below⟩; clear S M mk2; unfold fKind
                                          first
                                            | (rw [if_pos (by assumption), Bool.eq_iff_iff]; simp; done)
                                            | (rw [if_pos (by assumption), Bool.eq_iff_iff]; simp; omega)
                                            | (rw [if_neg (by omega), if_pos (by assumption), Bool.eq_iff_iff]; simp; done)
                                            | (rw [if_neg (by omega), if_pos (by assumption), Bool.eq_iff_iff]; simp; omega)
                                            | (rw [if_neg (by omega), if_neg (by omega), if_pos (by assumption)]; simp [*]; done)
                                            | (rw [if_neg (by omega), if_neg (by omega), if_neg (by omega), if_pos (by assumption), Bool.eq_iff_iff]; simp; done)
                                            | (rw [if_neg (by omega), if_neg (by omega), if_neg (by omega), if_pos (by assumption), Bool.eq_iff_iff]; simp; omega)
                                            | (rw [if_neg (by omega), if_neg (by omega), if_neg (by omega), if_neg (by omega)]; done)
                                      · clear S; intro h153 S
                                        first | replace h153 := nrmA h153 | replace h153 := nrmB h153 | skip
                                        first | replace h153 := nrm1 h153 | replace h153 := nrm2 h153 | replace h153 := nrm3 h153 | replace h153 := nrm4 h153 | replace h153 := nrm5 h153 | replace h153 := nrm6 h153 | replace h153 := of_decide_eq_true h153 | replace h153 := of_decide_eq_false h153 | skip
                                        refine st_condF S rfl ?_
                                        refine wp_seq ?_
                                        -- region 16 ref.go:75
                                        refine wp_region_lit ?_
                                        refine st_y S rfl rfl rfl (y_int S rfl rfl rfl) ?_; clear S a; intro a S
                                        refine st_y S rfl rfl rfl (y_assign S rfl) ?_; clear S a; intro a S
                                        refine wpList_nil ?_
                                        replace S := S.sub [(0, _), (1, _), (2, _), (55, _), (73, _), (81, _), (85, _), (87, _), (88, _), (118, _), (153, _), (165, _)] rfl
                                        refine then_normal ?_
                                        refine st_split (t := 165) S rfl ?_ ?_
                                        · clear S; intro h165 S
                                          first | replace h165 := nrmA h165 | replace h165 := nrmB h165 | skip
                                          first | replace h165 := nrm1 h165 | replace h165 := nrm2 h165 | replace h165 := nrm3 h165 | replace h165 := nrm4 h165 | replace h165 := nrm5 h165 | replace h165 := nrm6 h165 | replace h165 := of_decide_eq_true h165 | replace h165 := of_decide_eq_false h165 | skip
                                          refine st_condT S rfl ?_
                                          refine wp_seq ?_
                                          -- region 17 ref.go:76
                                          refine wp_region_lit ?_
                                          refine st_y S rfl rfl rfl (y_fieldAddr (k := 19) S (by kernel_rfl) rfl) ?_; clear S a; intro a S
                                          refine st_y S rfl rfl rfl (y_load S (by kernel_rfl) rfl (M.cell 0 rfl rfl)) ?_; clear S a; intro a S
                                          refine st_y S rfl rfl rfl (y_int S rfl rfl rfl) ?_; clear S a; intro a S
                                          refine st_y S rfl rfl rfl (y_move S rfl) ?_; clear S a; intro a S
                                          refine st_split (t := 170) S rfl ?_ ?_
                                          · clear S; intro h170 S
                                            first | replace h170 := nrmA h170 | replace h170 := nrmB h170 | skip
                                            first | replace h170 := nrm1 h170 | replace h170 := nrm2 h170 | replace h170 := nrm3 h170 | replace h170 := nrm4 h170 | replace h170 := nrm5 h170 | replace h170 := nrm6 h170 | replace h170 := of_decide_eq_true h170 | replace h170 := of_decide_eq_false h170 | skip
                                            refine st_skip 3 S rfl ?_; clear S a; intro a S
                                            refine st_y S rfl rfl rfl (y_pickT S rfl rfl) ?_; clear S a; intro a S
                                            refine st_y S rfl rfl rfl (y_move S rfl) ?_; clear S a; intro a S
                                            refine st_skip 3 S rfl ?_; clear S a; intro a S
                                            refine st_y S rfl rfl rfl (y_pickT S rfl rfl) ?_; clear S a; intro a S
                                            refine st_y S rfl rfl rfl (y_assign S rfl) ?_; clear S a; intro a S
                                            refine wpList_nil ?_
                                            replace S := S.sub [(0, _), (1, _), (55, _), (73, _), (81, _), (85, _), (87, _), (88, _), (118, _), (153, _), (165, _), (2, _)] rfl
                                            refine then_normal ?_
                                            refine wp_ret ?_
                                            refine block_ret ?_
                                            refine then_ret ?_
                                            refine end_one S rfl (res_tmp rfl) ?_
                                            refine ⟨ret_bool (mk2 _ ?_), M.below⟩; clear S M mk2; unfold fKind
                                            first
                                              | (rw [if_pos (by assumption), Bool.eq_iff_iff]; simp; done)
                                              | (rw [if_pos (by assumption), Bool.eq_iff_iff]; simp; omega)
                                              | (rw [if_neg (by omega), if_pos (by assumption), Bool.eq_iff_iff]; simp; done)
                                              | (rw [if_neg (by omega), if_pos (by assumption), Bool.eq_iff_iff]; simp; omega)
                                              | (rw [if_neg (by omega), if_neg (by omega), if_pos (by assumption)]; simp [*]; done)
                                              | (rw [if_neg (by omega), if_neg (by omega), if_neg (by omega), if_pos (by assumption), Bool.eq_iff_iff]; simp; done)
                                              | (rw [if_neg (by omega), if_neg (by omega), if_neg (by omega), if_pos (by assumption), Bool.eq_iff_iff]; simp; omega)
                                              | (rw [if_neg (by omega), if_neg (by omega), if_neg (by omega), if_neg (by omega)]; done)
                                          · clear S; intro h170 S
                                            first | replace h170 := nrmA h170 | replace h170 := nrmB h170 | skip
                                            first | replace h170 := nrm1 h170 | replace h170 := nrm2 h170 | replace h170 := nrm3 h170 | replace h170 := nrm4 h170 | replace h170 := nrm5 h170 | replace h170 := nrm6 h170 | replace h170 := of_decide_eq_true h170 | replace h170 := of_decide_eq_false h170 | skip
                                            refine st_y S rfl rfl rfl (y_fieldAddr (k := 19) S (by kernel_rfl) rfl) ?_; clear S a; intro a S
                                            refine st_y S rfl rfl rfl (y_load S (by kernel_rfl) rfl (M.cell 0 rfl rfl)) ?_; clear S a; intro a S
                                            refine st_y S rfl rfl rfl (y_int S rfl rfl rfl) ?_; clear S a; intro a S
                                            refine st_y S rfl rfl rfl (y_pickF S rfl rfl) ?_; clear S a; intro a S
                                            refine st_y S rfl rfl rfl (y_move S rfl) ?_; clear S a; intro a S
                                            refine st_split (t := 175) S rfl ?_ ?_
                                            · clear S; intro h175 S
                                              first | replace h175 := nrmA h175 | replace h175 := nrmB h175 | skip
                                              first | replace h175 := nrm1 h175 | replace h175 := nrm2 h175 | replace h175 := nrm3 h175 | replace h175 := nrm4 h175 | replace h175 := nrm5 h175 | replace h175 := nrm6 h175 | replace h175 := of_decide_eq_true h175 | replace h175 := of_decide_eq_false h175 | skip
                                              refine st_skip 3 S rfl ?_; clear S a; intro a S
                                              refine st_y S rfl rfl rfl (y_pickT S rfl rfl) ?_; clear S a; intro a S
                                              refine st_y S rfl rfl rfl (y_assign S rfl) ?_; clear S a; intro a S
                                              refine wpList_nil ?_
                                              replace S := S.sub [(0, _), (1, _), (55, _), (73, _), (81, _), (85, _), (87, _), (88, _), (118, _), (153, _), (165, _), (2, _)] rfl
                                              refine then_normal ?_
                                              refine wp_ret ?_
                                              refine block_ret ?_
                                              refine then_ret ?_
                                              refine end_one S rfl (res_tmp rfl) ?_
                                              refine ⟨ret_bool (mk2 _ ?_), M.below⟩; clear S M mk2; unfold fKind
                                              first
                                                | (rw [if_pos (by assumption), Bool.eq_iff_iff]; simp; done)
                                                | (rw [if_pos (by assumption), Bool.eq_iff_iff]; simp; omega)
                                                | (rw [if_neg (by omega), if_pos (by assumption), Bool.eq_iff_iff]; simp; done)
                                                | (rw [if_neg (by omega), if_pos (by assumption), Bool.eq_iff_iff]; simp; omega)
                                                | (rw [if_neg (by omega), if_neg (by omega), if_pos (by assumption)]; simp [*]; done)
                                                | (rw [if_neg (by omega), if_neg (by omega), if_neg (by omega), if_pos (by assumption), Bool.eq_iff_iff]; simp; done)
                                                | (rw [if_neg (by omega), if_neg (by omega), if_neg (by omega), if_pos (by assumption), Bool.eq_iff_iff]; simp; omega)
                                                | (rw [if_neg (by omega), if_neg (by omega), if_neg (by omega), if_neg (by omega)]; done)
                                            · clear S; intro h175 S
                                              first | replace h175 := nrmA h175 | replace h175 := nrmB h175 | skip
                                              first | replace h175 := nrm1 h175 | replace h175 := nrm2 h175 | replace h175 := nrm3 h175 | replace h175 := nrm4 h175 | replace h175 := nrm5 h175 | replace h175 := nrm6 h175 | replace h175 := of_decide_eq_true h175 | replace h175 := of_decide_eq_false h175 | skip
                                              refine st_y S rfl rfl rfl (y_fieldAddr (k := 19) S (by kernel_rfl) rfl) ?_; clear S a; intro a S
                                              refine st_y S rfl rfl rfl (y_load S (by kernel_rfl) rfl (M.cell 0 rfl rfl)) ?_; clear S a; intro a S
                                              refine st_y S rfl rfl rfl (y_int S rfl rfl rfl) ?_; clear S a; intro a S
                                              refine st_y S rfl rfl rfl (y_pickF S rfl rfl) ?_; clear S a; intro a S
                                              refine st_y S rfl rfl rfl (y_assign S rfl) ?_; clear S a; intro a S
                                              refine wpList_nil ?_
                                              replace S := S.sub [(0, _), (1, _), (55, _), (73, _), (81, _), (85, _), (87, _), (88, _), (118, _), (153, _), (165, _), (2, _)] rfl
                                              refine then_normal ?_
                                              refine wp_ret ?_
                                              refine block_ret ?_
                                              refine then_ret ?_
                                              refine end_one S rfl (res_tmp rfl) ?_
                                              refine ⟨ret_bool (mk2 _ ?_), M.below⟩; clear S M mk2; unfold fKind
                                              first
                                                | (rw [if_pos (by assumption), Bool.eq_iff_iff]; simp; done)
                                                | (rw [if_pos (by assumption), Bool.eq_iff_iff]; simp; omega)
                                                | (rw [if_neg (by omega), if_pos (by assumption), Bool.eq_iff_iff]; simp; done)
                                                | (rw [if_neg (by omega), if_pos (by assumption), Bool.eq_iff_iff]; simp; omega)
                                                | (rw [if_neg (by omega), if_neg (by omega), if_pos (by assumption)]; simp [*]; done)
                                                | (rw [if_neg (by omega), if_neg (by omega), if_neg (by omega), if_pos (by assumption), Bool.eq_iff_iff]; simp; done)
                                                | (rw [if_neg (by omega), if_neg (by omega), if_neg (by omega), if_pos (by assumption), Bool.eq_iff_iff]; simp; omega)
                                                | (rw [if_neg (by omega), if_neg (by omega), if_neg (by omega), if_neg (by omega)]; done)
                                        · clear S; intro h165 S
                                          first | replace h165 := nrmA h165 | replace h165 := nrmB h165 | skip
                                          first | replace h165 := nrm1 h165 | replace h165 := nrm2 h165 | replace h165 := nrm3 h165 | replace h165 := nrm4 h165 | replace h165 := nrm5 h165 | replace h165 := nrm6 h165 | replace h165 := of_decide_eq_true h165 | replace h165 := of_decide_eq_false h165 | skip
                                          refine st_condF S rfl ?_
                                          refine wp_skip ?_
                                          refine block_normal ?_
                                          refine then_normal ?_
                                          refine wp_seq ?_
                                          -- region 18 ref.go:78
                                          refine wp_region_lit ?_
                                          refine st_y S rfl rfl rfl (y_assign S rfl) ?_; clear S a; intro a S
                                          refine wpList_nil ?_
                                          replace S := S.sub [(0, _), (1, _), (55, _), (73, _), (81, _), (85, _), (87, _), (88, _), (118, _), (153, _), (165, _), (2, _)] rfl
                                          refine then_normal ?_
                                          refine wp_ret ?_
                                          refine end_one S rfl (res_tmp rfl) ?_
                                          refine ⟨ret_bool (mk2 _ ?_), M.below⟩; clear S M mk2; unfold fKind
                                          first
                                            | (rw [if_pos (by assumption), Bool.eq_iff_iff]; simp; done)
                                            | (rw [if_pos (by assumption), Bool.eq_iff_iff]; simp; omega)
                                            | (rw [if_neg (by omega), if_pos (by assumption), Bool.eq_iff_iff]; simp; done)
                                            | (rw [if_neg (by omega), if_pos (by assumption), Bool.eq_iff_iff]; simp; omega)
                                            | (rw [if_neg (by omega), if_neg (by omega), if_pos (by assumption)]; simp [*]; done)
                                            | (rw [if_neg (by omega), if_neg (by omega), if_neg (by omega), if_pos (by assumption), Bool.eq_iff_iff]; simp; done)
                                            | (rw [if_neg (by omega), if_neg (by omega), if_neg (by omega), if_pos (by assumption), Bool.eq_iff_iff]; simp; omega)
                                            | (rw [if_neg (by omega), if_neg (by omega), if_neg (by omega), if_neg (by omega)]; done)

end Go.Proofs.Ytdcihmdchabcnaa
