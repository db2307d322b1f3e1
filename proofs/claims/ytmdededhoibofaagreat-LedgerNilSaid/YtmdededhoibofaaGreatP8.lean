/-
  What LedgerNil rests on, part 8.
-/
import Derived.Test.YtmdededhoibofaaGreatP7
namespace Go.Proofs.YtmdededhoibofaaGreat
open Go.RowKit Go.Sort
/-- what the first records make of a superblock -/
def stI (su : Su) (n : Int) (L : List RI) (k : Nat) : Ls := ⟨su, (runK (curOf su, []) ((L.take k).map (·.1))).1, n, (runK (curOf su, []) ((L.take k).map (·.1))).2⟩
theorem stI_step (su : Su) (n : Int) {L : List RI} {k : Nat} {p : RI} (h : L[k]? = some p) : (stI su n L k).take p.1 = stI su n L (k + 1) := by
  rw [take_eq]
  unfold stI
  rw [List.take_add_one, h, List.map_append, runK_append]
  rfl
theorem stI_len (su : Su) (n : Int) (L : List RI) : ∀ k, (stI su n L k).op.length ≤ k
  | 0 => by simp [stI, runK]
  | k + 1 => by
    have ih := stI_len su n L k
    rcases Nat.lt_or_ge k L.length with h | h
    · have h1 := stI_step su n (List.getElem?_eq_getElem h)
      have h2 := Ls.take_len (stI su n L k) L[k].1
      rw [h1] at h2; omega
    · have e : stI su n L (k + 1) = stI su n L k := by unfold stI; rw [List.take_of_length_le (by omega), List.take_of_length_le (by omega)]
      rw [e]; omega
theorem stI_all {s : Ls} {L : List RI} {c : Nat} (G : LG s L c) : stI s.su s.n L L.length = s := by
  unfold stI
  rw [List.take_length, G.run]
theorem enc_one {r q : Rc} {x : List Wr} (h : q.may x = true) (hr : r.may [] = true) (he : q.enc x = r.enc []) : q = r ∧ x = [] := by
  have e0 : ∀ (r : Rc) (x : List Wr), (r.enc x)[0]? = some (byteOf r.kind) := fun r x => by rw [enc_head r x]; rfl
  have h1 := read_if (bs := r.enc []) (by rw [← he]; exact e0 q x) h he
  have h2 := read_if (bs := r.enc []) (e0 r []) hr rfl
  have e : byteOf q.kind = byteOf r.kind := by
    have h3 := e0 q x
    rw [he, e0 r []] at h3
    exact (Option.some.inj h3).symm
  rw [e, h2] at h1
  simp only [Prod.mk.injEq] at h1
  exact ⟨h1.1.symm, h1.2.1.symm⟩
set_option maxHeartbeats 8000000 in
theorem openL_any {wc w : World} {A E : List Ent} {bd : Nat} {S0 : DS} {K : Int} (s : Ls) (hE : DkE bd S0 E) (M : Mem wc w (A ++ E)) (hI : LInv S0 s [] K) :
    Calls Tryz.prog 9 #[.pointer (some ⟨bd, 0, none⟩)] w fun e w' => ∃ b va vc lo hi, e = .returned (.tuple #[.pointer (some ⟨b, 0, none⟩), .int .i64 0]) ∧ Mem wc w' (lgE b bd s va vc :: opE lo hi va vc s.op :: (A ++ E)) := by
  have hfew := hI.few
  have hup := hI.up
  have hw := hI.cache
  have hmay := hI.may
  obtain ⟨L, D, G, hn⟩ := hI.all
  have hgs := D.sup.gs
  obtain ⟨hsc1, hsc2⟩ := D.ph.scan
  have hLl := D.ph.lt
  rw [← hn] at hsc2
  refine calls_enter Tryz.func9 rfl 67 rfl rfl ?_; intro a S
  refine nxD ?_
  refine st_go [1, 1] S rfl (by kernel_rfl) ?_; clear S a; intro a S
  refine nxC ?_
  refine wp_seq ?_
  refine nxD ?_
  refine st_go [1] S rfl (by kernel_rfl) ?_; clear S a; intro a S
  refine st_y S rfl rfl rfl (y_eqlPS (by kernel_rfl) S rfl) ?_; clear S a; intro a S
  refine nxC ?_
  refine st_condF S rfl ?_
  refine wp_skip ?_
  refine nxE ?_
  refine st_go [1] S rfl (by kernel_rfl) ?_; clear S a; intro a S
  refine st_call (xs := [(Operand.tmp 16)]) S (enters_of Tryz.func33 (by decide) rfl) rfl rfl rfl (getH_any hE M hup hw) ?_
  rintro _ w1 ⟨rfl, M1⟩; refine ⟨_, rfl, ?_⟩; clear S M a; intro a S; have M := M1; clear M1
  rw [hgs] at S
  refine st_go [1, 1, 1] S rfl (by kernel_rfl) ?_; clear S a; intro a S
  refine st_alloc S M rfl rfl #[.int .i64 0, .int .i64 0, .int .i64 0, .int .i64 0, .int .i64 0, .int .i64 0, .int .i64 0, .int .i64 0, .int .i64 0, .int .i64 0, .int .i64 0, .int .i64 0, .int .i64 0] (by kernel_rfl) ?_; clear S M a; intro a w2 bU S M hB
  refine st_store (sz := 13) (us := [_, _, _, _, _, _, _, _, _, _, _, _, _]) S M 0 rfl (by kernel_rfl) rfl rfl rfl rfl rfl rfl (by first | decide | (simp; done) | (simp; omega)) ?_; clear M; intro w3 M
  simp only [putL, List.set_cons_zero, List.set_cons_succ, Nat.reduceAdd] at M
  refine st_go [1] S rfl (by kernel_rfl) ?_; clear S a; intro a S
  refine nxC ?_
  refine wp_seq ?_
  refine nxD ?_
  refine st_go [1, 1] S rfl (by kernel_rfl) ?_; clear S a; intro a S
  refine nxC ?_
  refine st_if (t := 21) S rfl ?_ ?_
  · clear S; intro h21 S
    exact absurd rfl h21
  clear S; intro h21 S
  refine st_condF S rfl ?_
  refine wp_skip ?_
  refine nxE ?_
  refine st_run [1, 2, 1] S M rfl (by kernel_rfl) ?_; clear S a; intro a S
  refine st_call (xs := [(Operand.tmp 24), (Operand.tmp 26)]) S (enters_of Tryz.func34 (by decide) rfl) rfl rfl rfl (Scan_anyG (A := _ :: A) s.su.tail hE M hup hw (by obtain ⟨-, -, -, h4, h5, -⟩ := hmay; omega)) ?_
  rintro _ w4 ⟨rs, ra, rc, rlo, rhi, rfl, hrs, h90, h24, M1⟩; refine ⟨_, rfl, ?_⟩; clear S M a; intro a S
  obtain ⟨F0, hF0⟩ : ∃ F0, F0 = rowE rlo rhi 58 1 (.slice ra rs.length rc) rs.length (rs.map RB.val) :: (rs.map RB.ent ++ (A ++ E)) := ⟨_, rfl⟩
  have hRow : rowE rlo rhi 58 1 (.slice ra rs.length rc) rs.length (rs.map RB.val) ∈ F0 := by rw [hF0]; exact List.mem_cons_self ..
  have hEnt : ∀ r ∈ rs, r.ent ∈ F0 := fun r hr => by rw [hF0]; exact List.mem_cons_of_mem _ (List.mem_append_left _ (List.mem_map_of_mem hr))
  have hSub : (A ++ E).Sublist F0 := by rw [hF0]; exact .cons _ (List.sublist_append_right _ _)
  have M := M1.perm ((List.Perm.cons _ (List.perm_middle (l₁ := rs.map RB.ent))).trans (List.Perm.swap _ _ _))
  simp only [List.append_eq] at M
  rw [← hF0] at M
  clear M1 hF0
  rw [hsc1] at hrs
  rw [hsc2] at S
  have hrl : rs.length = L.length := by
    have := congrArg List.length hrs
    rwa [List.length_map, List.length_map] at this
  refine st_go [1, 1, 1, 1] S rfl (by kernel_rfl) ?_; clear S a; intro a S
  refine st_alloc S M rfl rfl #[.int .i64 0, .int .i64 0] (by kernel_rfl) ?_; clear S M a; intro a w5 bLg S M hB
  refine st_go [1] S rfl (by kernel_rfl) ?_; clear S a; intro a S
  refine st_store (sz := 2) (us := [_, _]) S M 0 rfl (by kernel_rfl) rfl rfl rfl rfl rfl rfl (by first | decide | (simp; done) | (simp; omega)) ?_; clear M; intro w6 M
  simp only [putL, List.set_cons_zero, List.set_cons_succ, Nat.reduceAdd] at M
  refine st_go [1] S rfl (by kernel_rfl) ?_; clear S a; intro a S
  replace S := S.sub [(0, _), (2, _), (3, _), (14, _), (4, _), (21, _), (7, _), (6, _), (5, _)] rfl
  refine nxC ?_
  refine wp_seq ?_
  refine nxD ?_
  refine st_go [1, 1] S rfl (by kernel_rfl) ?_; clear S a; intro a S
  refine nxC ?_
  refine st_if (t := 32) S rfl ?_ ?_
  · clear S; intro h32 S
    exact absurd rfl h32
  clear S; intro h32 S
  refine st_condF S rfl ?_
  refine wp_skip ?_
  refine nxE ?_
  refine st_go [1] S rfl (by kernel_rfl) ?_; clear S a; intro a S
  refine st_y S rfl rfl rfl (y_loadAgg (cs := [_, _, _, _, _, _, _, _, _, _, _, _, _]) S (by kernel_rfl) rfl rfl (M.cellsAt (k := 13) 1 rfl rfl)) ?_; clear S a; intro a S
  refine st_run [5, 2, 6] S M rfl (by kernel_rfl) ?_; clear S a; intro a S
  refine st_y S rfl rfl rfl (y_loadAgg (cs := [_, _, _, _, _, _, _, _]) S (by kernel_rfl) rfl rfl (M.cellsAt (k := 8) 1 rfl rfl)) ?_; clear S a; intro a S
  refine st_y S rfl rfl rfl (y_loadAgg (cs := [_, _]) S (by kernel_rfl) rfl rfl (M.cellsAt (k := 2) 0 rfl rfl)) ?_; clear S a; intro a S
  refine st_y S rfl rfl rfl (y_build (ps := [(0, (Operand.tmp 35)), (1, (Operand.tmp 37)), (2, (Operand.tmp 39)), (3, (Operand.tmp 40))]) (pl := [(0, 13), (13, 1), (14, 8), (22, 2), (24, 1)]) (z := [.int .i64 0, .int .i64 0, .int .i64 0, .int .i64 0, .int .i64 0, .int .i64 0, .int .i64 0, .int .i64 0, .int .i64 0, .int .i64 0, .int .i64 0, .int .i64 0, .int .i64 0, .int .i64 0, .int .i64 0, .int .i64 0, .int .i64 0, .int .i64 0, .int .i64 0, .int .i64 0, .int .i64 0, .int .i64 0, .int .i64 0, .int .i64 0, .slice none 0 0]) (cs := stC ⟨s.su, curOf s.su, s.n, []⟩ (.slice none 0 0)) S (by kernel_rfl) rfl (by kernel_rfl)) ?_; clear S a; intro a S
  refine st_y S rfl rfl rfl (y_build (ps := [(0, (Operand.tmp 34)), (1, (Operand.tmp 41))]) (pl := [(0, 1), (1, 25)]) (z := [.pointer none, .int .i64 0, .int .i64 0, .int .i64 0, .int .i64 0, .int .i64 0, .int .i64 0, .int .i64 0, .int .i64 0, .int .i64 0, .int .i64 0, .int .i64 0, .int .i64 0, .int .i64 0, .int .i64 0, .int .i64 0, .int .i64 0, .int .i64 0, .int .i64 0, .int .i64 0, .int .i64 0, .int .i64 0, .int .i64 0, .int .i64 0, .int .i64 0, .slice none 0 0]) (cs := lgC (.pointer (some ⟨bd, 0, none⟩)) ⟨s.su, curOf s.su, s.n, []⟩ (.slice none 0 0)) S (by kernel_rfl) rfl (by kernel_rfl)) ?_; clear S a; intro a S
  refine st_box S M rfl rfl rfl #[_, _, _, _, _, _, _, _, _, _, _, _, _, _, _, _, _, _, _, _, _, _, _, _, _, _] rfl ?_; clear S M a; intro a w7 bX S M hB
  refine st_go [1] S rfl (by kernel_rfl) ?_; clear S a; intro a S
  refine nxC ?_
  refine wp_seq ?_
  refine nxD ?_
  refine st_go [1] S rfl (by kernel_rfl) ?_; clear S a; intro a S
  refine st_y S rfl rfl rfl (y_lenS (E := 58) S rfl (by kernel_rfl)) ?_; clear S a; intro a S
  refine st_go [1] S rfl (by kernel_rfl) ?_; clear S a; intro a S
  refine nxC ?_
  refine wp_block ?_
  refine wp_loop_g (fun m a w' => ∃ (k : Nat) (va : Option Addr) (vc dlo dhi : Nat), k ≤ rs.length ∧ m = rs.length - k ∧ Sees 67 a [(8, .pointer (some ⟨bX, 0, none⟩)), (44, .slice ra rs.length rc), (45, .int .i64 (rs.length : Int)), (46, .int .i64 (k : Int))] ∧ Mem wc w' (lgE bX bd (stI s.su s.n L k) va vc :: opE dlo dhi va vc (stI s.su s.n L k).op :: F0)) (rs.length) ?_ ?_
  · skip
    replace M := M.drop 1
    simp only [List.eraseIdx_cons_succ, List.eraseIdx_cons_zero] at M
    replace M := M.drop 1
    simp only [List.eraseIdx_cons_succ, List.eraseIdx_cons_zero] at M
    obtain ⟨dlo, dhi, M1⟩ := M.nilRow 29 12
    exact ⟨0, none, 0, dlo, dhi, Nat.zero_le _, rfl, S.sub _ rfl, M1.perm (List.Perm.swap _ _ _)⟩
  clear S M a; intro m a wl
  rintro ⟨k, va, vc, dlo, dhi, hk, rfl, S, M⟩
  have hsl := stI_len s.su s.n L k
  refine nxD ?_
  refine st_go [1] S rfl (by kernel_rfl) ?_; clear S a; intro a S
  refine nxC ?_
  refine wp_seq ?_
  refine st_fi (t := 47) S rfl ?_ ?_
  · clear S; intro h47 S
    refine st_condF S rfl ?_
    refine wp_exit ?_
    refine then_exit ?_
    refine then_exit ?_
    refine block_hit ?_
    refine nxE ?_
    refine st_go [1, 1, 1] S rfl (by kernel_rfl) ?_; clear S a; intro a S
    refine nxC ?_
    refine wp_ret ?_
    refine end_two S rfl (res_tmp rfl) (res_tmp rfl) ?_
    obtain rfl : k = rs.length := by omega
    rw [hrl, stI_all G] at M
    exact ⟨_, va, vc, dlo, dhi, rfl, M.sub (.cons_cons _ (.cons_cons _ hSub))⟩
  clear S; intro h47 S
  refine st_condT S rfl ?_
  refine wp_skip ?_
  refine then_normal ?_
  refine wp_seq ?_
  refine wp_block ?_
  refine wp_seq ?_
  have hkl : k < rs.length := by omega
  obtain ⟨r, hr⟩ : ∃ r, rs[k]? = some r := ⟨_, List.getElem?_eq_getElem hkl⟩
  have hrm := List.mem_of_getElem? hr
  have hr90 := h90 r hrm
  obtain ⟨p, hp⟩ : ∃ p, L[k]? = some p := ⟨_, List.getElem?_eq_getElem (by omega)⟩
  have hpok := (D.ph.ok p (List.mem_of_getElem? hp)).1
  have hbs : r.bs = p.1.enc [] := by
    have h1 : (rs.map RB.bs)[k]? = some r.bs := by rw [List.getElem?_map, hr]; rfl
    rw [hrs, List.getElem?_map, hp] at h1
    exact (Option.some.inj h1).symm
  refine wp_region_lit ?_
  refine st_y S rfl rfl rfl (y_indexR (e := 58) (sz := 1) S (by kernel_rfl) rfl ((M.readIn (.tail _ (.tail _ hRow)) (by unfold maxLen; omega))) rfl (by first | omega | (simp; done) | (simp; omega))) ?_; clear S a; intro a S
  try simp only [Int.toNat_natCast, Nat.mul_one, Nat.zero_add] at S
  refine st_y S rfl rfl rfl (y_load S (by kernel_rfl) rfl ((M.readIn (.tail _ (.tail _ hRow)) (by unfold maxLen; omega)).at_.one k (by rw [List.getElem?_map, hr]; rfl))) ?_; clear S a; intro a S
  refine st_go [1] S rfl (by kernel_rfl) ?_; clear S a; intro a S
  refine nxA ?_
  refine st_go [1] S rfl (by kernel_rfl) ?_; clear S a; intro a S
  refine st_call (xs := [(Operand.tmp 51)]) S (enters_of Tryz.func35 (by decide) rfl) rfl rfl rfl (readR_any r.val r.bs _ (M.readIn (.tail _ (.tail _ (hEnt r hrm))) (by unfold maxLen; omega))) ?_
  rintro _ w8 hP; obtain ⟨q, wx, wa, wcp, c, rfl, hF, h8, hs31, hcc⟩ := ReadRP.form hP; refine ⟨_, rfl, ?_⟩; clear S a; intro a S
  obtain ⟨rfl, rfl, rfl⟩ : c = 0 ∧ q = p.1 ∧ wx = [] := by
    rcases hcc with ⟨h0, h1, h2⟩ | ⟨-, -, -, h1⟩
    · exact ⟨h0, enc_one h1 hpok.1 (h2.trans hbs)⟩
    · exact absurd hbs.symm (h1 p.1 [] hpok.1)
  replace M := M.grow hF.below
  refine st_go [1, 1, 1] S rfl (by kernel_rfl) ?_; clear S a; intro a S
  refine st_alloc S M rfl rfl #[.int .i8 0, .int .i64 0, .int .i64 0, .int .i64 0, .bool false, .slice none 0 0, .int .i64 0, .int .i64 0, .int .i64 0, .int .i64 0, .int .i64 0, .int .i64 0] (by kernel_rfl) ?_; clear S M a; intro a w9 bY S M hB
  refine st_store (sz := 12) (us := [_, _, _, _, _, _, _, _, _, _, _, _]) S M 0 rfl (by kernel_rfl) rfl rfl rfl rfl rfl rfl (by first | decide | (simp; done) | (simp; omega)) ?_; clear M; intro w10 M
  simp only [putL, List.set_cons_zero, List.set_cons_succ, Nat.reduceAdd] at M
  refine st_go [1] S rfl (by kernel_rfl) ?_; clear S a; intro a S
  refine nxC ?_
  refine wp_seq ?_
  refine wp_regionK [7] #[false, false, false, false, false, false, false, false, false, false] rfl M (by kernel_rfl) ?_; clear M; intro w11 M
  refine k_pure 0 S rfl (fun w => y_move S rfl) ?_; clear S a; intro a S
  refine k_pure 1 S rfl (fun w => y_int S rfl rfl rfl) ?_; clear S a; intro a S
  refine k_pure 2 S rfl (fun w => y_move S rfl) ?_; clear S a; intro a S
  refine st_if (t := 57) S rfl ?_ ?_
  · clear S; intro h57 S
    exact absurd rfl h57
  clear S; intro h57 S
  refine k_pure 3 S rfl (fun w => y_move S rfl) ?_; clear S a; intro a S
  refine k_pure 4 S rfl (fun w => y_nilCheck S rfl) ?_; clear S a; intro a S
  refine k_pure 5 S rfl (fun w => y_fieldAddr (k := 1) S (by kernel_rfl) rfl) ?_; clear S a; intro a S
  refine k_read 6 S rfl (fun w hW => have M := M.grow hW; y_loadAgg (cs := [_, _, _, _, _, _, _, _, _, _, _, _]) S (by kernel_rfl) rfl rfl (M.cellsAt (k := 12) 0 rfl rfl)) ?_; clear S a; intro a S
  refine k_one 7 rfl (by kernel_rfl) ?_
  skip
  replace M := M.ord [2, 2] (by simp only [ordO, oG, oS, oE, oZ, oB] <;> rfl)
  refine st_call (xs := [(Operand.tmp 60), (Operand.tmp 61)]) S (enters_of Tryz.func36 (by decide) rfl) rfl rfl rfl (take1_any (.pointer (some ⟨bd, 0, none⟩)) (stI s.su s.n L k) va vc p.1 (.slice wa 0 wcp) M (by omega) (rec_cs hpok) hpok.2) ?_
  rintro _ w12 ⟨rfl, lo2, hi2, va2, vc2, M1⟩; refine ⟨_, rfl, ?_⟩; clear S M a; intro a S; have M := M1; clear M1
  rw [stI_step s.su s.n hp] at M
  refine wpList_nil ?_; refine then_normal ?_; refine ⟨fun h => absurd h (by decide), ?_⟩
  refine k_pure 8 S rfl (fun w => y_not S rfl) ?_; clear S a; intro a S
  refine k_pure 9 S rfl (fun w => y_pickF S rfl rfl) ?_; clear S a; intro a S
  refine k_end (by kernel_rfl) ?_
  replace S := S.sub [(8, _), (44, _), (45, _), (46, _), (47, _), (10, _), (11, _), (12, _), (64, _)] rfl
  refine then_normal ?_
  refine st_if (t := 64) S rfl ?_ ?_
  · clear S; intro h64 S
    first | cases h64 | (simp at h64)
  clear S; intro h64 S
  refine st_condF S rfl ?_
  refine wp_skip ?_
  refine block_normal ?_
  refine nxF ?_
  (first | refine st_y S rfl rfl rfl (y_addN S rfl rfl (by omega)) ?_ | refine st_y S rfl rfl rfl (y_int S rfl rfl rfl) ?_); clear S a; intro a S
  refine st_go [1] S rfl (by kernel_rfl) ?_; clear S a; intro a S
  refine nxC ?_
  skip
  replace M := M.drop 2
  simp only [List.eraseIdx_cons_succ, List.eraseIdx_cons_zero] at M
  exact ⟨rs.length - (k + 1), by omega, k + 1, va2, vc2, lo2, hi2, by omega, rfl, S.sub _ rfl, M⟩
end Go.Proofs.YtmdededhoibofaaGreat

namespace Go.Proofs.YtmdededhoibofaaGreat
open Go.RowKit Go.Sort
abbrev nmI (n : Int) : Nm := ⟨n, 1, 1⟩
abbrev rcom (n : Int) : Rc := { Rc.zero with kind := 4, name := nmI n, shards := 6, cs := -1 }
theorem name20_any (n : Int) (w : World) : Calls Tryz.prog 31 #[.int .i64 n] w fun e w' => e = .returned (.agg (nmI n).cells) ∧ Below w.heap.size w w' := by
  have M := Mem.start w
  refine calls_enter Tryz.func31 rfl 5 rfl rfl ?_; intro a S
  refine nxD ?_
  refine st_alloc S M rfl rfl #[.int .i64 0, .int .i64 0, .int .i64 0] (by kernel_rfl) ?_; clear S M a; intro a w1 bZ S M hB
  refine nxA ?_
  refine st_go [1] S rfl (by kernel_rfl) ?_; clear S a; intro a S
  refine st_y S rfl rfl rfl (y_build (ps := [(0, (Operand.tmp 3)), (1, (Operand.const (Value.int IntKind.i64 1))), (2, (Operand.const (Value.int IntKind.i64 1)))]) (pl := [(0, 1), (1, 1), (2, 1)]) (z := [.int .i64 0, .int .i64 0, .int .i64 0]) (cs := [_, _, _]) S (by kernel_rfl) rfl (rfl)) ?_; clear S a; intro a S
  refine st_store (sz := 3) (us := [_, _, _]) S M 0 rfl (by kernel_rfl) rfl rfl rfl rfl rfl rfl (by first | decide | (simp; done) | (simp; omega)) ?_; clear M; intro w2 M
  simp only [putL, List.set_cons_zero, List.set_cons_succ, Nat.reduceAdd] at M
  refine nxC ?_
  refine wp_ret ?_
  refine end_one S rfl (res_agg (cs := [_, _, _]) (by kernel_rfl) rfl rfl (M.cellsAt (k := 3) 0 rfl rfl)) ?_
  exact ⟨rfl, M.below⟩
theorem commit20_any (n : Int) (w : World) : Calls Tryz.prog 30 #[.int .i64 n] w fun e w' => e = .returned (.agg ((rcom n).cells (.slice none 0 0))) ∧ Below w.heap.size w w' := by
  have M := Mem.start w
  refine calls_enter Tryz.func30 rfl 7 rfl rfl ?_; intro a S
  refine nxD ?_
  refine st_alloc S M rfl rfl #[.int .i8 0, .int .i64 0, .int .i64 0, .int .i64 0, .bool false, .slice none 0 0, .int .i64 0, .int .i64 0, .int .i64 0, .int .i64 0, .int .i64 0, .int .i64 0] (by kernel_rfl) ?_; clear S M a; intro a w1 bZ S M hB
  refine nxA ?_
  refine st_go [1] S rfl (by kernel_rfl) ?_; clear S a; intro a S
  refine st_call (xs := [(Operand.tmp 3)]) S (enters_of Tryz.func31 (by decide) rfl) rfl rfl rfl (name20_any _ _) ?_
  rintro _ w2 ⟨rfl, hK⟩; refine ⟨_, rfl, ?_⟩; clear S a; intro a S; replace M := M.grow hK
  refine st_y S rfl rfl rfl (y_build (ps := [(0, (Operand.const (Value.int IntKind.i64 (-1))))]) (pl := [(0, 1), (1, 1)]) (z := [.int .i64 0, .int .i64 0]) (cs := [_, _]) S (by kernel_rfl) rfl (rfl)) ?_; clear S a; intro a S
  refine st_y S rfl rfl rfl (y_build (ps := [(0, (Operand.const (Value.int IntKind.i8 4))), (1, (Operand.tmp 4)), (6, (Operand.const (Value.int IntKind.i64 6))), (7, (Operand.tmp 5))]) (pl := [(0, 1), (1, 3), (4, 1), (5, 1), (6, 1), (7, 1), (8, 1), (9, 2), (11, 1)]) (z := [.int .i8 0, .int .i64 0, .int .i64 0, .int .i64 0, .bool false, .slice none 0 0, .int .i64 0, .int .i64 0, .int .i64 0, .int .i64 0, .int .i64 0, .int .i64 0]) (cs := [_, _, _, _, _, _, _, _, _, _, _, _]) S (by kernel_rfl) rfl (rfl)) ?_; clear S a; intro a S
  refine st_store (sz := 12) (us := [_, _, _, _, _, _, _, _, _, _, _, _]) S M 0 rfl (by kernel_rfl) rfl rfl rfl rfl rfl rfl (by first | decide | (simp; done) | (simp; omega)) ?_; clear M; intro w3 M
  simp only [putL, List.set_cons_zero, List.set_cons_succ, Nat.reduceAdd] at M
  refine nxC ?_
  refine wp_ret ?_
  refine end_one S rfl (res_agg (cs := [_, _, _, _, _, _, _, _, _, _, _, _]) (by kernel_rfl) rfl rfl (M.cellsAt (k := 12) 0 rfl rfl)) ?_
  exact ⟨rfl, M.below⟩
theorem rcom_may {n : Int} (h : (nmI n).named = true) : (rcom n).may [] = true := by
  simp [Rc.may, Rc.ok, Rc.rest, Rc.zero, Rc.same, h, Nm.eqb, eqWs, shardsB, changedB]
def wkA : Ls := ⟨su1, curOf su1, 2, [rcom 1]⟩
def wkB : Ls := ⟨su1, curOf su1, 3, [rcom 1, rcom 2]⟩
def wkC : Ls := ⟨su1, curOf su1, 4, [rcom 2]⟩
theorem wkA_eq : keepS s1 (rcom 1) = wkA := by unfold keepS madeS; rw [if_pos (by decide)]; rfl
theorem wkB_eq : keepS wkA (rcom 2) = wkB := by unfold keepS madeS; rw [if_pos (by decide)]; rfl
theorem wkC_eq : keepS wkB (r5 (nmI 1)) = wkC := by unfold keepS madeS; rw [if_pos (by decide)]; rfl
theorem wkC_room : roomS wkB (r5 (nmI 1)) := by decide
theorem s1_lb : Lb s1 1 := ⟨by decide, by decide, by decide, by decide⟩
theorem wkA_lb : Lb wkA 1 := ⟨by decide, by decide, by decide, by decide⟩
theorem wkB_lb : Lb wkB 1 := ⟨by decide, by decide, by decide, by decide⟩
theorem putF_dur (S : DS) (fs : List FrB) : (putF S fs).dur = S.dur := by
  unfold putF
  induction fs generalizing S with
  | nil => rfl
  | cons f l ih => rw [List.foldl_cons, ih]; rfl
theorem crash_putF (S : DS) (fs : List FrB) : ({ (putF S fs).crash [] with down := false } : DS) = { S.crash [] with down := false } := by
  unfold DS.crash durK keptB
  simp only [List.foldl_nil, putF_dur]
theorem names_len {a b : List Rc} (ha : OpOk a) (hb : OpOk b) (h1 : ∀ n, n ∈ a.map (·.name) → n ∈ b.map (·.name)) (h2 : ∀ n, n ∈ b.map (·.name) → n ∈ a.map (·.name)) : a.length = b.length := by
  have k1 := nodup_lenJ ha.nodup fun n hn => h1 n hn
  have k2 := nodup_lenJ hb.nodup fun n hn => h2 n hn
  simp only [List.length_map] at k1 k2
  omega
set_option maxHeartbeats 4000000 in
theorem wakes20_any (w : World) : Calls Tryz.prog 7 #[] w fun e w' => e = .returned (.bool true) ∧ Below w.heap.size w w' := by
  have M := Mem.start w
  refine calls_enter Tryz.func7 rfl 82 rfl rfl ?_; intro a S
  refine nxD ?_
  refine st_go [1] S rfl (by kernel_rfl) ?_; clear S a; intro a S
  refine nxA ?_
  refine st_call (xs := []) S (enters_of Tryz.func19 (by decide) rfl) rfl rfl rfl (new_any _) ?_
  rintro _ w1 ⟨b, E, rfl, hE, M1⟩; refine ⟨_, rfl, ?_⟩; clear S a; intro a S; replace M := M.join M1; clear M1
  rw [List.append_nil] at M
  refine st_go [1] S rfl (by kernel_rfl) ?_; clear S a; intro a S
  refine nxA ?_
  refine st_alloc S M rfl rfl #[.int .i64 0, .int .i64 0, .int .i64 0, .int .i64 0, .int .i64 0, .int .i64 0, .int .i64 0, .int .i64 0] (by kernel_rfl) ?_; clear S M a; intro a w2 bF S M hB
  refine nxA ?_
  refine st_go [1] S rfl (by kernel_rfl) ?_; clear S a; intro a S
  refine st_y S rfl rfl rfl (y_loadAgg (cs := [_, _, _, _, _, _, _, _]) S (by kernel_rfl) rfl rfl (M.cellsAt (k := 8) 0 rfl rfl)) ?_; clear S a; intro a S
  refine st_call (xs := [(Operand.tmp 10), (Operand.tmp 11)]) S (enters_of Tryz.func10 (by decide) rfl) rfl rfl rfl (format_any (A := [_]) (S0 := DS.new) hE M rfl (fun k => Nat.zero_le _)) ?_
  rintro _ w3 ⟨rfl, E1, hE1, M1⟩; refine ⟨_, rfl, ?_⟩; clear S M a; intro a S; have M := M1; clear M1
  refine st_go [1] S rfl (by kernel_rfl) ?_; clear S a; intro a S
  refine nxA ?_
  refine st_go [1] S rfl (by kernel_rfl) ?_; clear S a; intro a S
  refine st_call (xs := [(Operand.tmp 14)]) S (enters_of Tryz.func9 (by decide) rfl) rfl rfl rfl (openL_any (A := [_]) s1 hE1 M LInv.start) ?_
  rintro _ w4 ⟨l, va, vc, lo, hi, rfl, M1⟩; refine ⟨_, rfl, ?_⟩; clear S M a; intro a S; have M := M1; clear M1
  refine st_go [1, 1, 1, 1, 1] S rfl (by kernel_rfl) ?_; clear S a; intro a S
  refine nxC ?_
  refine wp_seq ?_
  refine nxD ?_
  refine st_go [1, 1, 1] S rfl (by kernel_rfl) ?_; clear S a; intro a S
  refine st_if (t := 20) S rfl ?_ ?_
  · clear S; intro h20 S
    all_goals (simp at h20)
  clear S; intro h20 S
  refine st_go [1, 1, 1, 1] S rfl (by kernel_rfl) ?_; clear S a; intro a S
  refine st_if (t := 24) S rfl ?_ ?_
  · clear S; intro h24 S
    all_goals (simp at h24)
  clear S; intro h24 S
  refine st_go [1] S rfl (by kernel_rfl) ?_; clear S a; intro a S
  refine st_y S rfl rfl rfl (y_eqlPS (by kernel_rfl) S rfl) ?_; clear S a; intro a S
  refine st_go [1] S rfl (by kernel_rfl) ?_; clear S a; intro a S
  replace S := S.sub [(0, _), (1, _), (2, _), (3, _), (4, _), (5, _), (27, _)] rfl
  refine nxC ?_
  refine st_condF S rfl ?_
  refine wp_skip ?_
  refine nxE ?_
  refine st_go [1] S rfl (by kernel_rfl) ?_; clear S a; intro a S
  refine st_call (xs := [(Operand.const (Value.int IntKind.i64 1))]) S (enters_of Tryz.func30 (by decide) rfl) rfl rfl rfl (commit20_any _ _) ?_
  rintro _ w5 ⟨rfl, hK⟩; refine ⟨_, rfl, ?_⟩; clear S a; intro a S; replace M := M.grow hK
  refine st_call (xs := [(Operand.tmp 28), (Operand.tmp 29)]) S (enters_of Tryz.func11 (by decide) rfl) rfl rfl rfl (commit_any (A := [_]) (T := []) (K := 0) (N := 1) s1 (rcom 1) [] va none vc 0 0 hE1 M (Rd.nil 0 _ _ 9) (by decide) LInv.start (by decide) s1_lb) ?_
  rintro _ w6 ⟨er, rfl, hC⟩; refine ⟨_, rfl, ?_⟩; clear S M a; intro a S
  obtain ⟨rfl, S1, E2, va, vc, lo, hi, hI1, -, hE2, M⟩ : er = 0 ∧ DidP w [_] l b s1 wkA [] 0 w6 := by
    rcases hC with ⟨h1, -, -, -, -, h2⟩ | ⟨-, h1, -⟩
    · rw [wkA_eq] at h2; exact ⟨h1, h2⟩
    · exact absurd ⟨rcom_may (by decide), rfl, rfl, by decide⟩ h1
  refine st_go [1, 1] S rfl (by kernel_rfl) ?_; clear S a; intro a S
  refine st_fi (t := 32) S rfl ?_ ?_
  · clear S; intro h32 S
    all_goals (simp at h32)
  clear S; intro h32 S
  refine st_go [1] S rfl (by kernel_rfl) ?_; clear S a; intro a S
  refine st_call (xs := [(Operand.const (Value.int IntKind.i64 2))]) S (enters_of Tryz.func30 (by decide) rfl) rfl rfl rfl (commit20_any _ _) ?_
  rintro _ w7 ⟨rfl, hK⟩; refine ⟨_, rfl, ?_⟩; clear S a; intro a S; replace M := M.grow hK
  refine st_call (xs := [(Operand.tmp 33), (Operand.tmp 34)]) S (enters_of Tryz.func11 (by decide) rfl) rfl rfl rfl (commit_any (A := [_]) (T := []) (K := 0) (N := 1) wkA (rcom 2) [] va none vc 0 0 hE2 M (Rd.nil 0 _ _ 9) (by decide) hI1 (by decide) wkA_lb) ?_
  rintro _ w8 ⟨er, rfl, hC⟩; refine ⟨_, rfl, ?_⟩; clear S M a; intro a S
  obtain ⟨rfl, S2, E3, va, vc, lo, hi, hI2, -, hE3, M⟩ : er = 0 ∧ DidP w [_] l b wkA wkB [] 0 w8 := by
    rcases hC with ⟨h1, -, -, -, -, h2⟩ | ⟨-, h1, -⟩
    · rw [wkB_eq] at h2; exact ⟨h1, h2⟩
    · exact absurd ⟨rcom_may (by decide), rfl, by decide, by decide⟩ h1
  refine st_go [1, 1, 1] S rfl (by kernel_rfl) ?_; clear S a; intro a S
  refine st_fi (t := 38) S rfl ?_ ?_
  · clear S; intro h38 S
    all_goals (simp at h38)
  clear S; intro h38 S
  refine st_go [1] S rfl (by kernel_rfl) ?_; clear S a; intro a S
  refine st_call (xs := [(Operand.const (Value.int IntKind.i64 1))]) S (enters_of Tryz.func31 (by decide) rfl) rfl rfl rfl (name20_any _ _) ?_
  rintro _ w9 ⟨rfl, hK⟩; refine ⟨_, rfl, ?_⟩; clear S a; intro a S; replace M := M.grow hK
  refine st_call (xs := [(Operand.tmp 39), (Operand.tmp 40)]) S (enters_of Tryz.func12 (by decide) rfl) rfl rfl rfl (end_any (A := [_]) (T := []) (K := 0) (N := 1) wkB (nmI 1) va vc hE3 M hI2 (by decide) wkB_lb) ?_
  rintro _ w10 ⟨er, rfl, hC⟩; refine ⟨_, rfl, ?_⟩; clear S M a; intro a S
  obtain ⟨rfl, S3, E4, va, vc, lo, hi, hI3, hq, hE4, M⟩ : er = 0 ∧ DidP w [_] l b wkB wkC [nmI 1] 0 w10 fun S3 => roomS wkB (r5 (nmI 1)) → S3 = putF S2 (cutF (encR (r5 (nmI 1))) wkB.n wkB.su.inc) := by
    rcases hC with ⟨h1, -, h2⟩ | ⟨-, h1, -⟩
    · rw [wkC_eq] at h2; exact ⟨h1, h2⟩
    · exact absurd h1 (by decide)
  obtain rfl := hq wkC_room
  refine st_go [1, 1, 1] S rfl (by kernel_rfl) ?_; clear S a; intro a S
  refine st_fi (t := 44) S rfl ?_ ?_
  · clear S; intro h44 S
    all_goals (simp at h44)
  clear S; intro h44 S
  refine st_go [1] S rfl (by kernel_rfl) ?_; clear S a; intro a S
  refine st_call (xs := [(Operand.tmp 45)]) S (enters_of Tryz.func15 (by decide) rfl) rfl rfl rfl (unfinished_any (.pointer (some ⟨b, 0, none⟩)) wkC va vc _ (M.blk 0 rfl) (rd_rcs M (p := 1) rfl (by decide)) (by decide)) ?_
  rintro _ w11 ⟨ra, rc, rfl, hF⟩; refine ⟨_, rfl, ?_⟩; clear S a; intro a S; replace M := M.grow hF.below
  refine st_y S rfl rfl rfl (y_lenS (E := 29) S rfl (by kernel_rfl)) ?_; clear S a; intro a S
  refine st_go [1, 1, 1] S rfl (by kernel_rfl) ?_; clear S a; intro a S
  replace S := S.sub [(0, _), (1, _), (2, _), (3, _), (4, _), (5, _), (27, _), (6, _)] rfl
  refine nxA ?_
  refine st_go [1, 1] S rfl (by kernel_rfl) ?_; clear S a; intro a S
  refine st_fi (t := 51) S rfl ?_ ?_
  · clear S; intro h51 S
    all_goals (exact absurd (by decide) h51)
  clear S; intro h51 S
  refine st_go [1] S rfl (by kernel_rfl) ?_; clear S a; intro a S
  refine st_call (xs := [(Operand.tmp 52), (Operand.const (Value.slice none 0 0))]) S (enters_of Tryz.func22 (by decide) rfl) rfl rfl rfl (crash_any (A := _ :: _ :: [_]) none 0 [] hE4 M (fun W _ => Rd.nil _ _ _ _) hI3.up hI3.cache) ?_
  rintro _ w12 ⟨rfl, E5, hE5, M1⟩; refine ⟨_, rfl, ?_⟩; clear S M a; intro a S; have M := M1; clear M1
  refine st_go [1, 1, 1] S rfl (by kernel_rfl) ?_; clear S a; intro a S
  refine st_fi (t := 56) S rfl ?_ ?_
  · clear S; intro h56 S
    all_goals (simp at h56)
  clear S; intro h56 S
  refine st_go [1] S rfl (by kernel_rfl) ?_; clear S a; intro a S
  refine st_call (xs := [(Operand.tmp 57)]) S (enters_of Tryz.func23 (by decide) rfl) rfl rfl rfl (up_any (A := _ :: _ :: [_]) hE5 M rfl) ?_
  rintro _ w13 ⟨rfl, E6, hE6, M1⟩; refine ⟨_, rfl, ?_⟩; clear S M a; intro a S; have M := M1; clear M1
  rw [crash_putF] at hE6
  obtain ⟨s2, hs1, hs2, -, hI4, hs3, hs4⟩ := hI2.crash (by decide) []
  have hs5 := names_len hI2.oks.2 hI4.oks.2 hs3 (fun n hn => (hs4 n hn).resolve_right (by simp))
  have hs6 : s2.cu.bound = 1 := by rw [hs2]; rfl
  refine st_go [1, 1, 1] S rfl (by kernel_rfl) ?_; clear S a; intro a S
  refine nxA ?_
  refine st_go [1] S rfl (by kernel_rfl) ?_; clear S a; intro a S
  refine st_call (xs := [(Operand.tmp 62)]) S (enters_of Tryz.func9 (by decide) rfl) rfl rfl rfl (openL_any (A := _ :: _ :: [_]) s2 hE6 M hI4) ?_
  rintro _ w14 ⟨l2, va2, vc2, lo2, hi2, rfl, M1⟩; refine ⟨_, rfl, ?_⟩; clear S M a; intro a S; have M := M1; clear M1
  refine st_go [1, 1, 1, 1, 1] S rfl (by kernel_rfl) ?_; clear S a; intro a S
  replace S := S.sub [(0, _), (1, _), (2, _), (3, _), (4, _), (5, _), (27, _), (6, _), (7, _), (8, _)] rfl
  refine nxA ?_
  refine st_go [1, 1] S rfl (by kernel_rfl) ?_; clear S a; intro a S
  refine st_fi (t := 67) S rfl ?_ ?_
  · clear S; intro h67 S
    all_goals (simp at h67)
  clear S; intro h67 S
  refine st_go [1, 1, 1, 1] S rfl (by kernel_rfl) ?_; clear S a; intro a S
  refine st_fi (t := 71) S rfl ?_ ?_
  · clear S; intro h71 S
    all_goals (simp at h71)
  clear S; intro h71 S
  refine st_go [1] S rfl (by kernel_rfl) ?_; clear S a; intro a S
  refine st_call (xs := [(Operand.tmp 72)]) S (enters_of Tryz.func15 (by decide) rfl) rfl rfl rfl (unfinished_any (.pointer (some ⟨b, 0, none⟩)) s2 va2 vc2 _ (M.blk 0 rfl) (rd_rcs M (p := 1) rfl (by rw [← hs5]; decide)) (by rw [← hs5]; decide)) ?_
  rintro _ w15 ⟨ra, rc, rfl, hF⟩; refine ⟨_, rfl, ?_⟩; clear S a; intro a S; replace M := M.grow hF.below
  refine st_y S rfl rfl rfl (y_lenS (E := 29) S rfl (by kernel_rfl)) ?_; clear S a; intro a S
  refine st_go [1, 1, 1] S rfl (by kernel_rfl) ?_; clear S a; intro a S
  refine st_fi (t := 77) S rfl ?_ ?_
  · clear S; intro h77 S
    all_goals (exact absurd (by rw [← hs5]; decide) h77)
  clear S; intro h77 S
  refine st_go [1] S rfl (by kernel_rfl) ?_; clear S a; intro a S
  refine st_call (xs := [(Operand.tmp 78)]) S (enters_of Tryz.func16 (by decide) rfl) rfl rfl rfl (bound_any (.pointer (some ⟨b, 0, none⟩)) s2 _ _ (M.blk 0 rfl)) ?_
  rintro _ w16 ⟨rfl, hK⟩; refine ⟨_, rfl, ?_⟩; clear S a; intro a S; replace M := M.grow hK
  refine st_go [1, 1, 1] S rfl (by kernel_rfl) ?_; clear S a; intro a S
  replace S := S.sub [(1, _), (2, _), (3, _), (4, _), (5, _), (27, _), (6, _), (7, _), (8, _), (0, _)] rfl
  refine nxC ?_
  refine wp_ret ?_
  refine end_one S rfl (res_tmp rfl) ?_
  exact ⟨by rw [hs6]; rfl, M.below⟩
end Go.Proofs.YtmdededhoibofaaGreat

namespace Go.Proofs.YtmdededhoibofaaGreat
open Go.RowKit Go.Sort
theorem equalLg (d : Nat) (a b : Int) (w : World) : (Op.equalIn (d + 2) 48 (.agg #[.int .i64 a, .int .i64 b]) (.agg #[.int .i64 a, .int .i64 b])).run Tryz.prog w = .ok true w := by
  simp [go_sem]
end Go.Proofs.YtmdededhoibofaaGreat

namespace Go.Proofs.YtmdededhoibofaaGreat
open Go.RowKit Go.Sort
theorem openNil (w : World) : Calls Tryz.prog 9 #[.pointer none] w fun e w' => e = .returned (.tuple #[.pointer none, .int .i64 1]) ∧ Below w.heap.size w w' := by
  have M := Mem.start w
  refine calls_enter Tryz.func9 rfl 67 rfl rfl ?_; intro a S
  refine nxD ?_
  refine st_go [1, 1] S rfl (by kernel_rfl) ?_; clear S a; intro a S
  refine nxC ?_
  refine wp_seq ?_
  refine nxD ?_
  refine st_go [1] S rfl (by kernel_rfl) ?_; clear S a; intro a S
  refine st_y S rfl rfl rfl (y_eqlPN (by kernel_rfl) S rfl) ?_; clear S a; intro a S
  refine nxC ?_
  refine st_condT S rfl ?_
  refine nxD ?_
  refine st_go [1, 1] S rfl (by kernel_rfl) ?_; clear S a; intro a S
  refine nxC ?_
  refine wp_ret ?_
  refine then_ret ?_
  refine end_two S rfl (res_tmp rfl) (res_tmp rfl) ?_
  exact ⟨rfl, M.below⟩
theorem formatNil (z0 z1 z2 z3 z4 z5 z6 z7 : Int) (w : World) : Calls Tryz.prog 10 #[.pointer none, .agg #[.int .i64 z0, .int .i64 z1, .int .i64 z2, .int .i64 z3, .int .i64 z4, .int .i64 z5, .int .i64 z6, .int .i64 z7]] w fun e w' => e = .returned (.int .i64 1) ∧ Below w.heap.size w w' := by
  have M := Mem.start w
  refine calls_enter Tryz.func10 rfl 28 rfl rfl ?_; intro a S
  refine nxD ?_
  refine st_box S M rfl rfl rfl #[_, _, _, _, _, _, _, _] rfl ?_; clear S M a; intro a w1 bF S M hB
  refine st_go [1] S rfl (by kernel_rfl) ?_; clear S a; intro a S
  refine nxC ?_
  refine wp_seq ?_
  refine nxD ?_
  refine st_go [1] S rfl (by kernel_rfl) ?_; clear S a; intro a S
  refine st_y S rfl rfl rfl (y_eqlPN (by kernel_rfl) S rfl) ?_; clear S a; intro a S
  refine nxC ?_
  refine st_condT S rfl ?_
  refine nxD ?_
  refine st_go [1] S rfl (by kernel_rfl) ?_; clear S a; intro a S
  refine nxC ?_
  refine wp_ret ?_
  refine then_ret ?_
  refine end_one S rfl (res_tmp rfl) ?_
  exact ⟨rfl, M.below⟩
theorem beginNil (w : World) : Calls Tryz.prog 8 #[.pointer none] w fun e w' => e = .returned (.tuple #[.int .i64 0, .int .i64 1]) ∧ Below w.heap.size w w' := by
  have M := Mem.start w
  refine calls_enter Tryz.func8 rfl 44 rfl rfl ?_; intro a S
  refine nxD ?_
  refine st_go [1, 1] S rfl (by kernel_rfl) ?_; clear S a; intro a S
  refine nxC ?_
  refine wp_seq ?_
  refine nxD ?_
  refine st_go [1] S rfl (by kernel_rfl) ?_; clear S a; intro a S
  refine st_y S rfl rfl rfl (y_eqlPN (by kernel_rfl) S rfl) ?_; clear S a; intro a S
  refine nxC ?_
  refine st_condT S rfl ?_
  refine nxD ?_
  refine st_go [1, 1] S rfl (by kernel_rfl) ?_; clear S a; intro a S
  refine nxC ?_
  refine wp_ret ?_
  refine then_ret ?_
  refine end_two S rfl (res_tmp rfl) (res_tmp rfl) ?_
  exact ⟨rfl, M.below⟩
theorem commitNil (r : Rc) (va : Option Addr) (vn vc : Nat) (w : World) : Calls Tryz.prog 11 #[.pointer none, .agg (r.cells (.slice va vn vc))] w fun e w' => e = .returned (.int .i64 1) ∧ Below w.heap.size w w' := by
  have M := Mem.start w
  refine calls_enter Tryz.func11 rfl 36 rfl rfl ?_; intro a S
  refine nxD ?_
  refine st_box S M rfl rfl rfl #[_, _, _, _, _, _, _, _, _, _, _, _] rfl ?_; clear S M a; intro a w1 bRr S M hB
  refine st_go [1] S rfl (by kernel_rfl) ?_; clear S a; intro a S
  refine nxC ?_
  refine wp_seq ?_
  refine wp_block ?_
  refine nxD ?_
  refine st_go [1] S rfl (by kernel_rfl) ?_; clear S a; intro a S
  refine st_y S rfl rfl rfl (y_eqlPN (by kernel_rfl) S rfl) ?_; clear S a; intro a S
  refine st_go [1] S rfl (by kernel_rfl) ?_; clear S a; intro a S
  refine nxC ?_
  refine st_condT S rfl ?_
  refine nxD ?_
  refine st_go [1] S rfl (by kernel_rfl) ?_; clear S a; intro a S
  refine nxC ?_
  refine wp_ret ?_
  refine block_ret ?_
  refine then_ret ?_
  refine end_one S rfl (res_tmp rfl) ?_
  exact ⟨rfl, M.below⟩
theorem endNil (nm : Nm) (w : World) : Calls Tryz.prog 12 #[.pointer none, .agg nm.cells] w fun e w' => e = .returned (.int .i64 1) ∧ Below w.heap.size w w' := by
  have M := Mem.start w
  refine calls_enter Tryz.func12 rfl 17 rfl rfl ?_; intro a S
  refine nxD ?_
  refine st_box S M rfl rfl rfl #[_, _, _] rfl ?_; clear S M a; intro a w1 bRr S M hB
  refine st_go [1] S rfl (by kernel_rfl) ?_; clear S a; intro a S
  refine nxC ?_
  refine wp_seq ?_
  refine nxD ?_
  refine st_go [1] S rfl (by kernel_rfl) ?_; clear S a; intro a S
  refine st_y S rfl rfl rfl (y_eqlPN (by kernel_rfl) S rfl) ?_; clear S a; intro a S
  refine nxC ?_
  refine st_condT S rfl ?_
  refine nxD ?_
  refine st_go [1] S rfl (by kernel_rfl) ?_; clear S a; intro a S
  refine nxC ?_
  refine wp_ret ?_
  refine then_ret ?_
  refine end_one S rfl (res_tmp rfl) ?_
  exact ⟨rfl, M.below⟩
theorem stampsNil (n : Int) (w : World) : Calls Tryz.prog 13 #[.pointer none, .int .i64 n] w fun e w' => e = .returned (.int .i64 1) ∧ Below w.heap.size w w' := by
  have M := Mem.start w
  refine calls_enter Tryz.func13 rfl 26 rfl rfl ?_; intro a S
  refine nxD ?_
  refine st_go [1] S rfl (by kernel_rfl) ?_; clear S a; intro a S
  refine nxC ?_
  refine wp_seq ?_
  refine nxD ?_
  refine st_go [1] S rfl (by kernel_rfl) ?_; clear S a; intro a S
  refine st_y S rfl rfl rfl (y_eqlPN (by kernel_rfl) S rfl) ?_; clear S a; intro a S
  refine nxC ?_
  refine st_condT S rfl ?_
  refine nxD ?_
  refine st_go [1] S rfl (by kernel_rfl) ?_; clear S a; intro a S
  refine nxC ?_
  refine wp_ret ?_
  refine then_ret ?_
  refine end_one S rfl (res_tmp rfl) ?_
  exact ⟨rfl, M.below⟩
theorem checkNil (w : World) : Calls Tryz.prog 14 #[.pointer none] w fun e w' => e = .returned (.int .i64 1) ∧ Below w.heap.size w w' := by
  have M := Mem.start w
  refine calls_enter Tryz.func14 rfl 19 rfl rfl ?_; intro a S
  refine nxD ?_
  refine st_go [1] S rfl (by kernel_rfl) ?_; clear S a; intro a S
  refine nxC ?_
  refine wp_seq ?_
  refine nxD ?_
  refine st_go [1] S rfl (by kernel_rfl) ?_; clear S a; intro a S
  refine st_y S rfl rfl rfl (y_eqlPN (by kernel_rfl) S rfl) ?_; clear S a; intro a S
  refine nxC ?_
  refine st_condT S rfl ?_
  refine nxD ?_
  refine st_go [1] S rfl (by kernel_rfl) ?_; clear S a; intro a S
  refine nxC ?_
  refine wp_ret ?_
  refine then_ret ?_
  refine end_one S rfl (res_tmp rfl) ?_
  exact ⟨rfl, M.below⟩
theorem unfNil (w : World) : Calls Tryz.prog 15 #[.pointer none] w fun e w' => e = .returned (.slice none 0 0) ∧ Below w.heap.size w w' := by
  have M := Mem.start w
  refine calls_enter Tryz.func15 rfl 11 rfl rfl ?_; intro a S
  refine nxD ?_
  refine st_go [1] S rfl (by kernel_rfl) ?_; clear S a; intro a S
  refine nxC ?_
  refine wp_seq ?_
  refine nxD ?_
  refine st_go [1] S rfl (by kernel_rfl) ?_; clear S a; intro a S
  refine st_y S rfl rfl rfl (y_eqlPN (by kernel_rfl) S rfl) ?_; clear S a; intro a S
  refine nxC ?_
  refine st_condT S rfl ?_
  refine nxD ?_
  refine st_go [1] S rfl (by kernel_rfl) ?_; clear S a; intro a S
  refine nxC ?_
  refine wp_ret ?_
  refine then_ret ?_
  refine end_one S rfl (res_tmp rfl) ?_
  exact ⟨rfl, M.below⟩
theorem boundNil (w : World) : Calls Tryz.prog 16 #[.pointer none] w fun e w' => e = .returned (.int .i64 0) ∧ Below w.heap.size w w' := by
  have M := Mem.start w
  refine calls_enter Tryz.func16 rfl 10 rfl rfl ?_; intro a S
  refine nxD ?_
  refine st_go [1] S rfl (by kernel_rfl) ?_; clear S a; intro a S
  refine nxC ?_
  refine wp_seq ?_
  refine nxD ?_
  refine st_go [1] S rfl (by kernel_rfl) ?_; clear S a; intro a S
  refine st_y S rfl rfl rfl (y_eqlPN (by kernel_rfl) S rfl) ?_; clear S a; intro a S
  refine nxC ?_
  refine st_condT S rfl ?_
  refine nxD ?_
  refine st_go [1] S rfl (by kernel_rfl) ?_; clear S a; intro a S
  refine nxC ?_
  refine wp_ret ?_
  refine then_ret ?_
  refine end_one S rfl (res_tmp rfl) ?_
  exact ⟨rfl, M.below⟩
theorem logNil (w : World) : Calls Tryz.prog 17 #[.pointer none] w fun e w' => e = .returned (.agg #[.int .i64 0, .int .i64 0]) ∧ Below w.heap.size w w' := by
  have M := Mem.start w
  refine calls_enter Tryz.func17 rfl 11 rfl rfl ?_; intro a S
  refine nxD ?_
  refine st_alloc S M rfl rfl #[.int .i64 0, .int .i64 0] (by kernel_rfl) ?_; clear S M a; intro a w1 bZ S M hB
  refine nxC ?_
  refine wp_seq ?_
  refine nxD ?_
  refine st_go [1] S rfl (by kernel_rfl) ?_; clear S a; intro a S
  refine st_y S rfl rfl rfl (y_eqlPN (by kernel_rfl) S rfl) ?_; clear S a; intro a S
  refine nxC ?_
  refine st_condT S rfl ?_
  refine nxD ?_
  refine st_y S rfl rfl rfl (y_build (ps := []) (pl := [(0, 1), (1, 1)]) (z := [.int .i64 0, .int .i64 0]) (cs := [_, _]) S (by kernel_rfl) rfl (rfl)) ?_; clear S a; intro a S
  refine st_store (sz := 2) (us := [_, _]) S M 0 rfl (by kernel_rfl) rfl rfl rfl rfl rfl rfl (by first | decide | (simp; done) | (simp; omega)) ?_; clear M; intro w2 M
  simp only [putL, List.set_cons_zero, List.set_cons_succ, Nat.reduceAdd] at M
  refine nxC ?_
  refine wp_ret ?_
  refine then_ret ?_
  refine end_one S rfl (res_agg (cs := [_, _]) (by kernel_rfl) rfl rfl (M.cellsAt (k := 2) 0 rfl rfl)) ?_
  exact ⟨rfl, M.below⟩
set_option maxHeartbeats 1000000 in
theorem ledgerNil_any (r : Rc) (va : Option Addr) (vn vc : Nat) (n z0 z1 z2 z3 z4 z5 z6 z7 : Int) (w : World) : Calls Tryz.prog 3 #[.agg (r.cells (.slice va vn vc)), .int .i64 n, .agg #[.int .i64 z0, .int .i64 z1, .int .i64 z2, .int .i64 z3, .int .i64 z4, .int .i64 z5, .int .i64 z6, .int .i64 z7]] w fun e w' => e = .returned (.bool true) ∧ Below w.heap.size w w' := by
  have M := Mem.start w
  refine calls_enter Tryz.func3 rfl 79 rfl rfl ?_; intro a S
  refine nxD ?_
  refine st_box S M rfl rfl rfl #[_, _, _, _, _, _, _, _, _, _, _, _] rfl ?_; clear S M a; intro a w1 bRr S M hB
  refine st_box S M rfl rfl rfl #[_, _, _, _, _, _, _, _] rfl ?_; clear S M a; intro a w2 bOf S M hB
  refine st_go [1] S rfl (by kernel_rfl) ?_; clear S a; intro a S
  refine nxC ?_
  refine wp_seq ?_
  refine nxD ?_
  refine st_y S rfl rfl rfl (y_loadAgg (cs := [_, _, _, _, _, _, _, _, _, _, _, _]) S (by kernel_rfl) rfl rfl (M.cellsAt (k := 12) 1 rfl rfl)) ?_; clear S a; intro a S
  refine st_call (xs := [(Operand.tmp 12)]) S (enters_of Tryz.func6 (by decide) rfl) rfl rfl rfl (greatR_any _ _ _ _ _) ?_
  rintro _ w3 ⟨rfl, hK⟩; refine ⟨_, rfl, ?_⟩; clear S a; intro a S; replace M := M.grow hK
  refine nxC ?_
  refine st_if (t := 13) S rfl ?_ ?_
  · clear S; intro h13 S
    refine st_condT S rfl ?_
    refine nxD ?_
    refine st_call (xs := []) S (enters_of Tryz.func7 (by decide) rfl) rfl rfl rfl (wakes20_any _) ?_
    rintro _ w4 ⟨rfl, hK⟩; refine ⟨_, rfl, ?_⟩; clear S a; intro a S; replace M := M.grow hK
    refine st_go [1] S rfl (by kernel_rfl) ?_; clear S a; intro a S
    refine nxC ?_
    refine wp_ret ?_
    refine then_ret ?_
    refine end_one S rfl (res_tmp rfl) ?_
    exact ⟨rfl, M.below⟩
  clear S; intro h13 S
  refine st_condF S rfl ?_
  refine wp_skip ?_
  refine nxE ?_
  refine st_go [1] S rfl (by kernel_rfl) ?_; clear S a; intro a S
  refine nxA ?_
  refine st_go [1] S rfl (by kernel_rfl) ?_; clear S a; intro a S
  refine st_call (xs := [(Operand.tmp 16)]) S (enters_of Tryz.func8 (by decide) rfl) rfl rfl rfl (beginNil _) ?_
  rintro _ w5 ⟨rfl, hK⟩; refine ⟨_, rfl, ?_⟩; clear S a; intro a S; replace M := M.grow hK
  refine st_go [1, 1, 1, 1, 1] S rfl (by kernel_rfl) ?_; clear S a; intro a S
  refine nxA ?_
  refine st_call (xs := [(Operand.const (Value.pointer none))]) S (enters_of Tryz.func9 (by decide) rfl) rfl rfl rfl (openNil _) ?_
  rintro _ w6 ⟨rfl, hK⟩; refine ⟨_, rfl, ?_⟩; clear S a; intro a S; replace M := M.grow hK
  refine st_go [1, 1, 1, 1, 1] S rfl (by kernel_rfl) ?_; clear S a; intro a S
  refine nxA ?_
  refine st_go [1, 1, 1] S rfl (by kernel_rfl) ?_; clear S a; intro a S
  refine st_fi (t := 26) S rfl ?_ ?_
  · clear S; intro h26 S
    all_goals (simp at h26)
  clear S; intro h26 S
  refine st_go [1, 1, 1, 1] S rfl (by kernel_rfl) ?_; clear S a; intro a S
  refine st_fi (t := 30) S rfl ?_ ?_
  · clear S; intro h30 S
    all_goals (simp at h30)
  clear S; intro h30 S
  refine st_y S rfl rfl rfl (y_loadAgg (cs := [_, _, _, _, _, _, _, _]) S (by kernel_rfl) rfl rfl (M.cellsAt (k := 8) 0 rfl rfl)) ?_; clear S a; intro a S
  refine st_call (xs := [(Operand.const (Value.pointer none)), (Operand.tmp 31)]) S (enters_of Tryz.func10 (by decide) rfl) rfl rfl rfl (formatNil _ _ _ _ _ _ _ _ _) ?_
  rintro _ w7 ⟨rfl, hK⟩; refine ⟨_, rfl, ?_⟩; clear S a; intro a S; replace M := M.grow hK
  refine st_go [1, 1, 1] S rfl (by kernel_rfl) ?_; clear S a; intro a S
  refine st_fi (t := 35) S rfl ?_ ?_
  · clear S; intro h35 S
    all_goals (simp at h35)
  clear S; intro h35 S
  refine st_go [1] S rfl (by kernel_rfl) ?_; clear S a; intro a S
  refine st_y S rfl rfl rfl (y_loadAgg (cs := [_, _, _, _, _, _, _, _, _, _, _, _]) S (by kernel_rfl) rfl rfl (M.cellsAt (k := 12) 1 rfl rfl)) ?_; clear S a; intro a S
  refine st_call (xs := [(Operand.tmp 36), (Operand.tmp 37)]) S (enters_of Tryz.func11 (by decide) rfl) rfl rfl rfl (commitNil _ _ _ _ _) ?_
  rintro _ w8 ⟨rfl, hK⟩; refine ⟨_, rfl, ?_⟩; clear S a; intro a S; replace M := M.grow hK
  refine st_go [1, 1, 1] S rfl (by kernel_rfl) ?_; clear S a; intro a S
  refine st_fi (t := 41) S rfl ?_ ?_
  · clear S; intro h41 S
    all_goals (simp at h41)
  clear S; intro h41 S
  refine st_go [1, 2] S rfl (by kernel_rfl) ?_; clear S a; intro a S
  refine st_y S rfl rfl rfl (y_loadAgg (cs := [_, _, _]) S (by kernel_rfl) rfl rfl (M.cellsAt (k := 3) 1 rfl rfl)) ?_; clear S a; intro a S
  refine st_call (xs := [(Operand.tmp 42), (Operand.tmp 44)]) S (enters_of Tryz.func12 (by decide) rfl) rfl rfl rfl (endNil r.name _) ?_
  rintro _ w9 ⟨rfl, hK⟩; refine ⟨_, rfl, ?_⟩; clear S a; intro a S; replace M := M.grow hK
  refine st_go [1, 1, 1] S rfl (by kernel_rfl) ?_; clear S a; intro a S
  refine st_fi (t := 48) S rfl ?_ ?_
  · clear S; intro h48 S
    all_goals (simp at h48)
  clear S; intro h48 S
  refine st_go [1, 1] S rfl (by kernel_rfl) ?_; clear S a; intro a S
  refine st_call (xs := [(Operand.tmp 49), (Operand.tmp 50)]) S (enters_of Tryz.func13 (by decide) rfl) rfl rfl rfl (stampsNil _ _) ?_
  rintro _ w10 ⟨rfl, hK⟩; refine ⟨_, rfl, ?_⟩; clear S a; intro a S; replace M := M.grow hK
  refine st_go [1, 1, 1] S rfl (by kernel_rfl) ?_; clear S a; intro a S
  refine st_fi (t := 54) S rfl ?_ ?_
  · clear S; intro h54 S
    all_goals (simp at h54)
  clear S; intro h54 S
  refine st_go [1] S rfl (by kernel_rfl) ?_; clear S a; intro a S
  refine st_call (xs := [(Operand.tmp 55)]) S (enters_of Tryz.func14 (by decide) rfl) rfl rfl rfl (checkNil _) ?_
  rintro _ w11 ⟨rfl, hK⟩; refine ⟨_, rfl, ?_⟩; clear S a; intro a S; replace M := M.grow hK
  refine st_go [1, 1, 1] S rfl (by kernel_rfl) ?_; clear S a; intro a S
  refine st_fi (t := 59) S rfl ?_ ?_
  · clear S; intro h59 S
    all_goals (simp at h59)
  clear S; intro h59 S
  refine st_go [1] S rfl (by kernel_rfl) ?_; clear S a; intro a S
  refine st_call (xs := [(Operand.tmp 60)]) S (enters_of Tryz.func15 (by decide) rfl) rfl rfl rfl (unfNil _) ?_
  rintro _ w12 ⟨rfl, hK⟩; refine ⟨_, rfl, ?_⟩; clear S a; intro a S; replace M := M.grow hK
  refine st_y S rfl rfl rfl (y_lenS (E := 29) S rfl (by kernel_rfl)) ?_; clear S a; intro a S
  refine st_go [1, 1, 1] S rfl (by kernel_rfl) ?_; clear S a; intro a S
  refine st_fi (t := 65) S rfl ?_ ?_
  · clear S; intro h65 S
    all_goals (simp at h65)
  clear S; intro h65 S
  refine st_go [1] S rfl (by kernel_rfl) ?_; clear S a; intro a S
  refine st_call (xs := [(Operand.tmp 66)]) S (enters_of Tryz.func16 (by decide) rfl) rfl rfl rfl (boundNil _) ?_
  rintro _ w13 ⟨rfl, hK⟩; refine ⟨_, rfl, ?_⟩; clear S a; intro a S; replace M := M.grow hK
  refine st_go [1, 1, 1] S rfl (by kernel_rfl) ?_; clear S a; intro a S
  refine st_fi (t := 70) S rfl ?_ ?_
  · clear S; intro h70 S
    all_goals (simp at h70)
  clear S; intro h70 S
  refine st_go [1] S rfl (by kernel_rfl) ?_; clear S a; intro a S
  refine st_call (xs := [(Operand.tmp 71)]) S (enters_of Tryz.func17 (by decide) rfl) rfl rfl rfl (logNil _) ?_
  rintro _ w14 ⟨rfl, hK⟩; refine ⟨_, rfl, ?_⟩; clear S a; intro a S; replace M := M.grow hK
  refine st_y S rfl rfl rfl (y_build (ps := []) (pl := [(0, 1), (1, 1)]) (z := [.int .i64 0, .int .i64 0]) (cs := [_, _]) S (by kernel_rfl) rfl (rfl)) ?_; clear S a; intro a S
  refine st_y S rfl rfl rfl (y_eqlG (by kernel_rfl) S rfl rfl (fun w => equalLg 9998 0 0 w)) ?_; clear S a; intro a S
  refine st_go [1, 1] S rfl (by kernel_rfl) ?_; clear S a; intro a S
  refine st_fi (t := 76) S rfl ?_ ?_
  · clear S; intro h76 S
    all_goals (simp at h76)
  clear S; intro h76 S
  refine st_call (xs := []) S (enters_of Tryz.func7 (by decide) rfl) rfl rfl rfl (wakes20_any _) ?_
  rintro _ w15 ⟨rfl, hK⟩; refine ⟨_, rfl, ?_⟩; clear S a; intro a S; replace M := M.grow hK
  refine st_go [1, 1] S rfl (by kernel_rfl) ?_; clear S a; intro a S
  replace S := S.sub [(0, _), (1, _), (2, _), (3, _), (5, _), (13, _), (7, _), (9, _), (11, _), (6, _)] rfl
  refine nxC ?_
  refine wp_ret ?_
  refine end_one S rfl (res_tmp rfl) ?_
  exact ⟨rfl, M.below⟩
end Go.Proofs.YtmdededhoibofaaGreat

namespace Go.Proofs.YtmdededhoibofaaGreat
open Go.ChangeShapes Go.WideShapes Go.ChangeAt Go.RowKit Go.Joins
theorem Tryz.own : ownKnob Tryz.prog.godebug = none := by kernel_rfl
theorem Tryz.laidOut : laidOutB Tryz.prog = true := by kernel_rfl
section
variable {H : Type} {enc : TypeId × Value → H} {P : Program}
/-- arguments read as they read, through the same places, where what lay lies as it lay -/
theorem trodAll_stays (hl : laidOutB P = true) {W W' : World} (hb : Below W.heap.size W W') {sp : Nat → Bool} : ∀ (ts : List TypeId) (vs : List Value) (ds : List (DataW H)) (ps : List MemPlace),
    (∀ t ∈ ts, P.readableRec t = true ∧ t < P.types.size) → (∀ p ∈ ps, p.block < W.heap.size ∧ sp p.block = true) →
    DataW.TrodAll enc P W 0 (fun _ => true) true ts vs ds ps → DataW.TrodAll enc P W' 0 sp true ts vs ds ps
  | [], vs, ds, ps, _, _, h => by
    obtain ⟨rfl, rfl, rfl⟩ := trodAll_nil h
    exact trodAll_mk0
  | t :: ts, vs, ds, ps, ht, hp, h => by
    obtain ⟨v, vs', d, ds', p, q, rfl, rfl, rfl, h0, h1⟩ := trodAll_cons h
    exact trodAll_cons_mk (WideElems.Trod_stays hl (ht t (by simp)).1 (ht t (by simp)).2 h0 (fun x hx => hb.same (hp x (by simp [hx])).1) (fun x hx => (hp x (by simp [hx])).2))
      (trodAll_stays hl hb ts vs' ds' q (fun t' h' => ht t' (by simp [h'])) (fun x hx => hp x (by simp [hx])) h1)
/-- A LAW's conclusion: true came back, nothing that lay has turned, the specification says 'true, the arguments as they were' -/
theorem law_post {f : Func} {s : ChangeSpec} {apart fresh handsOn again : Bool} {W W' : World} {args : Array Value} {ds gs : List (DataW H)} {before : List MemPlace} {tb : TypeId}
    (hl : laidOutB P = true) (hts : ∀ t ∈ f.params.toList, P.readableRec t = true ∧ t < P.types.size) (hv : s.vars = []) (hrt : f.resultTypes = #[tb]) (htb : P.underlying tb = some .bool)
    (hs : ∀ ds : List (DataW H), ds.length = f.params.size → s.fn H ds = { results := [.lit (.bool true)], args := ds })
    (hW : DataW.Whole enc P f.params.toList s.vars apart W args.toList ds gs before) (hb : Below W.heap.size W W') : s.post enc P f apart fresh handsOn again W args (.bool true) W' := by
  have hlt : ∀ p ∈ before, p.block < W.heap.size := fun p hp => hW.lt p hp
  have hW' := hW
  obtain ⟨p, q, hA, hV, rfl, hfz, hnd⟩ := hW
  rw [hv] at hV
  obtain ⟨rfl, rfl⟩ := trodVars_none hV
  have hlen : ds.length = f.params.size := by
    have : ∀ (ts : List TypeId) (vs : List Value) (ds : List (DataW H)) (ps : List MemPlace), DataW.TrodAll enc P W 0 (fun _ => true) true ts vs ds ps → ds.length = ts.length := by
      intro ts
      induction ts with
      | nil => intro vs ds ps h; obtain ⟨_, rfl, _⟩ := trodAll_nil h; rfl
      | cons t ts ih => intro vs ds ps h; obtain ⟨v, vs', d, ds', p, q, _, rfl, _, _, h1⟩ := trodAll_cons h; simp [ih _ _ _ h1]
    simpa using this _ _ _ _ hA
  have e := hs ds hlen
  have args_read : ∀ sp : Nat → Bool, (∀ x ∈ p ++ [], sp x.block = true) → DataW.TrodAll enc P W' 0 sp true f.params.toList args.toList ds p := fun sp hsp =>
    trodAll_stays hl hb _ _ _ _ hts (fun x hx => ⟨hlt x (by simp [hx]), hsp x (by simp [hx])⟩) hA
  have res_read : ∀ (b : Nat) (sp : Nat → Bool) (hd : Bool), DataW.TrodAll enc P W' b sp hd f.resultTypes.toList (Value.resultList f.resultTypes.size (.bool true)) [.lit (.bool true)] [] := fun b sp hd => by
    rw [hrt]; exact trodAll_mk1 (shut_bool htb _)
  have no_vars : ∀ sp : Nat → Bool, DataW.TrodVars enc P W' sp s.vars ([] : List (DataW H)) [] := fun sp => by rw [hv]; rfl
  have hold : ∀ x ∈ p ++ [], (fun b => decide (b < W.heap.size)) x.block = true := fun x hx => by simpa using hlt x hx
  have e' : s.fn H (ds ++ []) = { results := [.lit (.bool true)], args := ds } := by rw [List.append_nil]; exact e
  refine ⟨ds, [], p ++ [], [], p, [], hW', ?_, ?_, ?_, World.keptBut_mono (fun x hx => ⟨hx, ?_⟩) (hb.frame (· ∈ p ++ [])), fun _ => ?_⟩
  · rw [e']; exact res_read _ _ _
  · rw [e']; exact args_read _ hold
  · rw [e']; exact no_vars _
  · exact Or.inr (by simpa using hx)
  · refine ⟨ok_one hrt rfl (okWide_bool_mk htb _), _, _, ([] ++ p) ++ [], ⟨[] ++ p, [], trodAll_append (args_read _ (fun _ _ => rfl)) (res_read _ _ _), no_vars _, rfl, fun b off hx => ?_, fun ha => by simpa using hnd ha⟩, fun x hx _ => by simpa using hx⟩
    have hin : MemPlace.cell b off ∈ p ++ [] := by simpa using hx
    rw [hb.frozen (hlt _ hin)]
    exact hfz b off hin
end
end Go.Proofs.YtmdededhoibofaaGreat
namespace Go.Proofs.YtmdededhoibofaaGreat
open Go.ChangeShapes Go.WideShapes Go.ChangeAt Go.RowKit Go.Joins
section
variable {H : Type} {enc : TypeId × Value → H} {P : Program} {W : World} {base : Nat} {t : TypeId} {v : Value} {d : DataW H} {ps : List MemPlace}
theorem cells_one {x : Value} (h : v.cells.toList = [x]) (hna : ∀ cs, v ≠ .agg cs) : v = x := by
  cases v <;> first | exact absurd rfl (hna _) | (simp [Value.cells] at h; exact h)
theorem arg_int {k : IntKind} (ht : P.underlying t = some (.int k)) (hv : Value.okWide P W .any base t v) (h : DataW.Trod enc P W 0 (fun _ => true) true t v d ps) : ∃ n, v = .int k n ∧ k.min ≤ n ∧ n ≤ k.max := by
  obtain ⟨fuel, h⟩ := h
  obtain ⟨n, e, _, _⟩ := DataW.trod_int ht h
  unfold Value.okWide at hv
  simp only [ht] at hv
  have hv' : Cell.okWide P W .any base t v := hv
  unfold Cell.okWide at hv'
  simp only [ht] at hv'
  have hna : ∀ cs, v ≠ .agg cs := fun cs hc => by subst hc; simp [Cell.ok, ht] at hv'
  have := cells_one e hna
  subst this
  simp only [Cell.ok, ht] at hv'
  exact ⟨n, rfl, hv'.2⟩
end
end Go.Proofs.YtmdededhoibofaaGreat
namespace Go.Proofs.YtmdededhoibofaaGreat
open Go.ChangeShapes Go.WideShapes Go.ChangeAt Go.RowKit Go.Joins
section
variable {H : Type} {enc : TypeId × Value → H} {P : Program} {W : World} {base : Nat} {t : TypeId} {v : Value} {d : DataW H} {ps : List MemPlace}
end
end Go.Proofs.YtmdededhoibofaaGreat
namespace Go.Proofs.YtmdededhoibofaaGreat
open Go.ChangeShapes Go.WideShapes Go.ChangeAt Go.RowKit Go.Joins
section
variable {H : Type} {enc : TypeId × Value → H} {P : Program} {W : World} {t : TypeId} {cs : List Value}
/-- these cells read as data of the type t -/
def Rdt (enc : TypeId × Value → H) (P : Program) (W : World) (t : TypeId) (cs : List Value) : Prop := ∃ n x, DataW.trod enc P W 0 (fun _ => true) true n t cs = some x
theorem Rdt.int {k : IntKind} (h : Rdt enc P W t cs) (ht : P.underlying t = some (.int k)) : ∃ z, cs = [.int k z] ∧ k.min ≤ z ∧ z ≤ k.max := by
  obtain ⟨n, x, h⟩ := h
  obtain ⟨z, e, -, hw⟩ := DataW.trod_int ht h
  simp only [Lit.wf, Bool.and_eq_true, decide_eq_true_eq] at hw
  exact ⟨z, e, hw⟩
theorem Rdt.i64 (h : Rdt enc P W t cs) (ht : P.underlying t = some (.int .i64)) : ∃ z, cs = [.int .i64 z] ∧ -9223372036854775808 ≤ z ∧ z ≤ 9223372036854775807 := by
  obtain ⟨z, e, h1, h2⟩ := h.int ht
  have e1 : IntKind.i64.min = -9223372036854775808 := rfl
  have e2 : IntKind.i64.max = 9223372036854775807 := rfl
  exact ⟨z, e, by omega, by omega⟩
theorem Rdt.u8 (h : Rdt enc P W t cs) (ht : P.underlying t = some (.int .u8)) : ∃ b : UInt8, cs = [.int .u8 (b.toNat : Int)] := by
  obtain ⟨z, e, h1, h2⟩ := h.int ht
  have e1 : IntKind.u8.min = 0 := rfl
  have e2 : IntKind.u8.max = 255 := rfl
  refine ⟨UInt8.ofNat z.toNat, ?_⟩
  rw [e]; simp; omega
theorem Rdt.bool (h : Rdt enc P W t cs) (ht : P.underlying t = some .bool) : ∃ b, cs = [.bool b] := by
  obtain ⟨n, x, h⟩ := h
  obtain ⟨b, e, -⟩ := DataW.trod_bool ht h
  exact ⟨b, e⟩
theorem Rdt.len_struct {fs : Array Field} (h : Rdt enc P W t cs) (ht : P.underlying t = some (.struct fs)) : cs.length = P.cellsOf t := by
  obtain ⟨n, x, h⟩ := h
  obtain ⟨xs, m, -, -, hl, -, -⟩ := DataW.trod_struct ht h
  exact hl
theorem Rdt.field {fs : Array Field} (h : Rdt enc P W t cs) (ht : P.underlying t = some (.struct fs)) (i : Nat) {f : Field} (hf : fs[i]? = some f) {k : Nat} (hk : P.cellsOf f.type = k) : Rdt enc P W f.type ((cs.drop f.offset).take k) := by
  obtain ⟨n, x, h⟩ := h
  obtain ⟨xs, m, -, -, hl, hlen, hx⟩ := DataW.trod_struct ht h
  have hlt : i < xs.length := by rw [hlen]; exact (Array.getElem?_eq_some_iff.1 hf).1
  subst hk
  exact ⟨m, xs[i], by rw [← List.getElem?_eq_getElem hlt]; exact hx i f hf⟩
theorem Rdt.len_array {m : Nat} {e : TypeId} (h : Rdt enc P W t cs) (ht : P.underlying t = some (.array m e)) : cs.length = P.cellsOf t := by
  obtain ⟨n, x, h⟩ := h
  obtain ⟨xs, m, -, -, hl, -, -⟩ := DataW.trod_array ht h
  exact hl
theorem Rdt.elem {m : Nat} {e : TypeId} (h : Rdt enc P W t cs) (ht : P.underlying t = some (.array m e)) {k : Nat} (hk : P.cellsOf e = k) (i : Nat) (hi : i < m) : Rdt enc P W e ((cs.drop (i * k)).take k) := by
  obtain ⟨n, x, h⟩ := h
  obtain ⟨xs, q, -, -, hl, hlen, hx⟩ := DataW.trod_array ht h
  have hlt : i < xs.length := by rw [hlen]; exact hi
  subst hk
  exact ⟨q, xs[i], by rw [← List.getElem?_eq_getElem hlt]; exact hx i hi⟩
theorem list_of {α : Type} {Q : Nat → α → Prop} : ∀ (n : Nat), (∀ i, i < n → ∃ a, Q i a) → ∃ xs : List α, xs.length = n ∧ ∀ i a, xs[i]? = some a → Q i a
  | 0, _ => ⟨[], rfl, fun i a h => by simp at h⟩
  | n + 1, h => by
    obtain ⟨xs, hl, hx⟩ := list_of n (fun i hi => h i (by omega))
    obtain ⟨a, ha⟩ := h n (by omega)
    refine ⟨xs ++ [a], by simp [hl], fun i b hb => ?_⟩
    rcases Nat.lt_or_ge i n with hi | hi
    · rw [List.getElem?_append_left (by omega)] at hb; exact hx i b hb
    · rw [List.getElem?_append_right (by omega)] at hb
      have : i - xs.length = 0 := by
        rcases Nat.eq_zero_or_pos (i - xs.length) with h0 | h0
        · exact h0
        · rw [List.getElem?_eq_none (by simp; omega)] at hb; cases hb
      rw [this] at hb
      obtain rfl : a = b := by simpa using hb
      obtain rfl : i = n := by omega
      exact ha
theorem addr_add2 (ad : Addr) (m j : Nat) : (ad.add m).add j = ad.add (m + j) := by
  unfold Addr.add
  by_cases h1 : m = 0
  · subst h1; simp
  · by_cases h2 : j = 0
    · subst h2; simp
    · simp [h1, h2, Nat.add_assoc]
theorem flat_get {sz : Nat} : ∀ (l : List (List Value)) (i j : Nat) (r : List Value), (∀ r ∈ l, r.length = sz) → l[i]? = some r → j < sz → l.flatten[i * sz + j]? = r[j]?
  | [], i, j, r, _, h, _ => by simp at h
  | x :: l, 0, j, r, hl, h, hj => by
    obtain rfl : x = r := by simpa using h
    have := hl x (by simp)
    rw [Nat.zero_mul, Nat.zero_add, List.flatten_cons, List.getElem?_append_left (by omega)]
  | x :: l, i + 1, j, r, hl, h, hj => by
    have hx := hl x (by simp)
    have := flat_get l i j r (fun q hq => hl q (by simp [hq])) (by simpa using h) hj
    rw [List.flatten_cons, List.getElem?_append_right (by rw [hx, Nat.succ_mul]; omega), ← this, hx]
    congr 1; rw [Nat.succ_mul]; omega
theorem flat_len {sz : Nat} : ∀ (l : List (List Value)), (∀ r ∈ l, r.length = sz) → l.flatten.length = l.length * sz
  | [], _ => by simp
  | x :: l, hl => by rw [List.flatten_cons, List.length_append, flat_len l (fun q hq => hl q (by simp [hq])), hl x (by simp), List.length_cons, Nat.succ_mul]; omega
/-- a slice of any elements: it reads as rows, each of which is some element -/
theorem Rdt.rows {α : Type} {Φ : α → List Value → Prop} {e sz : Nat} (h : Rdt enc P W t cs) (ht : P.underlying t = some (.slice e)) (hc : P.cellsOf e = sz) (hsz : 0 < sz) (hl : ∀ a cs, Φ a cs → cs.length = sz) (he : ∀ cs, Rdt enc P W e cs → ∃ a, Φ a cs) :
    ∃ u css, ∃ xs : List α, cs = [u] ∧ Rd 0 W.heap.size W sz u xs.length css ∧ ∀ i a, xs[i]? = some a → Φ a ((css.drop (i * sz)).take sz) := by
  obtain ⟨n, x, h⟩ := h
  rcases DataW.trod_slice ht h with ⟨rfl, -⟩ | ⟨ad, len, cap, elems, rest, m, -, rfl, -, -, hlc, hcm, hlen, hel, -, -⟩
  · exact ⟨_, [], [], rfl, Rd.nil _ _ _ _, fun i a h => by simp at h⟩
  · have each : ∀ i, i < len → ∃ q : α × List Value, W.cells? 0 (ad.add (i * sz)) sz = some q.2 ∧ Φ q.1 q.2 := fun i hi => by
      have h1 := hel i hi
      rw [hc, List.getElem?_eq_getElem (by omega)] at h1
      obtain ⟨r, h2, h3⟩ := Option.bind_eq_some_iff.1 h1
      obtain ⟨a, ha⟩ := he r ⟨m, _, h3⟩
      exact ⟨(a, r), h2, ha⟩
    obtain ⟨qs, hql, hq⟩ := list_of len each
    have hrl : ∀ r ∈ qs.map (·.2), r.length = sz := fun r hr => by
      obtain ⟨q, hq1, rfl⟩ := List.mem_map.1 hr
      obtain ⟨i, hi⟩ := List.getElem?_of_mem hq1
      exact hl _ _ (hq i q hi).2
    have hcell : ∀ i j (r : List Value), (qs.map (·.2))[i]? = some r → j < sz → W.cell? (ad.add (i * sz + j)) = r[j]? := fun i j r hr hj => by
      rw [List.getElem?_map, Option.map_eq_some_iff] at hr
      obtain ⟨q, hq1, rfl⟩ := hr
      obtain ⟨-, h2, h3⟩ := World.cells?_some (hq i q hq1).1
      have := h3 j hj
      rw [← this, addr_add2]
    have hfl := flat_len (qs.map (·.2)) hrl
    rw [List.length_map, hql] at hfl
    have hsp : 0 < len → ad.spot = none ∧ ad.block < W.heap.size := fun h0 => by
      obtain ⟨q, hq0⟩ : ∃ q, qs[0]? = some q := ⟨_, List.getElem?_eq_getElem (by omega)⟩
      have hr0 : (qs.map (·.2))[0]? = some q.2 := by simp [hq0]
      have h1 := hcell 0 0 q.2 hr0 hsz
      have hq2 := hrl q.2 (List.mem_of_getElem? hr0)
      rw [Nat.zero_mul, Nat.add_zero, show ad.add 0 = ad from rfl, List.getElem?_eq_getElem (by omega)] at h1
      refine ⟨?_, block_lt_of_cell h1⟩
      unfold World.cell? at h1
      split at h1
      · split at h1
        · cases h1
        · rename_i hs; simpa using hs
      · cases h1
    refine ⟨_, (qs.map (·.2)).flatten, qs.map (·.1), rfl, ?_, fun i a ha => ?_⟩
    · rw [List.length_map, hql]
      refine ⟨hfl, by omega, .inr ⟨ad, cap, rfl, hlc, hcm, fun j hj => ?_, fun h0 => ⟨(hsp h0).1, Nat.zero_le _, (hsp h0).2⟩⟩⟩
      rw [hfl] at hj
      have hlen0 : 0 < len := by rcases Nat.eq_zero_or_pos len with h | h; · rw [h] at hj; simp at hj
                                 · exact h
      have hi : j / sz < len := Nat.div_lt_of_lt_mul (by rw [Nat.mul_comm]; exact hj)
      have hm := Nat.mod_lt j hsz
      have ej : j = j / sz * sz + j % sz := by rw [Nat.mul_comm]; exact (Nat.div_add_mod j sz).symm
      obtain ⟨q, hq1⟩ : ∃ q, qs[j / sz]? = some q := ⟨_, List.getElem?_eq_getElem (by omega)⟩
      have hr1 : (qs.map (·.2))[j / sz]? = some q.2 := by simp [hq1]
      have h1 := hcell (j / sz) (j % sz) q.2 hr1 hm
      have h2 := flat_get _ (j / sz) (j % sz) q.2 hrl hr1 hm
      rw [← ej] at h1 h2
      rw [h2, ← h1]
      obtain ⟨b, o, sp⟩ := ad
      have : sp = none := (hsp hlen0).1
      subst this
      rw [addr_add]
    · rw [List.getElem?_map, Option.map_eq_some_iff] at ha
      obtain ⟨q, hq1, rfl⟩ := ha
      have hr1 : (qs.map (·.2))[i]? = some q.2 := by simp [hq1]
      have hq2 := hrl q.2 (List.mem_of_getElem? hr1)
      have : ((qs.map (·.2)).flatten.drop (i * sz)).take sz = q.2 := by
        apply List.ext_getElem?
        intro j
        rcases Nat.lt_or_ge j sz with hj | hj
        · rw [List.getElem?_take_of_lt hj, List.getElem?_drop, flat_get _ i j q.2 hrl hr1 hj]
        · rw [List.getElem?_eq_none (by simp; omega), List.getElem?_eq_none (by omega)]
      rw [this]
      exact (hq i q hq1).2
theorem rows_flat {α : Type} {f : α → List Value} {sz : Nat} : ∀ (xs : List α) (css : List Value), css.length = xs.length * sz → (∀ a, (f a).length = sz) → (∀ i a, xs[i]? = some a → (css.drop (i * sz)).take sz = f a) → css = xs.flatMap f
  | [], css, hl, _, _ => by simpa using List.eq_nil_of_length_eq_zero (by simpa using hl)
  | x :: xs, css, hl, hf, h => by
    have h0 := h 0 x rfl
    rw [Nat.zero_mul, List.drop_zero] at h0
    have hr := rows_flat xs (css.drop sz) (by rw [List.length_drop, hl, List.length_cons, Nat.succ_mul]; omega) hf (fun i a hi => by
      have := h (i + 1) a (by simpa using hi)
      rw [List.drop_drop, ← this]; congr 2; rw [Nat.succ_mul]; omega)
    rw [List.flatMap_cons, ← h0, ← hr, List.take_append_drop]
/-- the same, where an element's cells are its own -/
theorem Rdt.flat {α : Type} {f : α → List Value} {e sz : Nat} (h : Rdt enc P W t cs) (ht : P.underlying t = some (.slice e)) (hc : P.cellsOf e = sz) (hsz : 0 < sz) (hl : ∀ a, (f a).length = sz) (he : ∀ cs, Rdt enc P W e cs → ∃ a, cs = f a) :
    ∃ u, ∃ xs : List α, cs = [u] ∧ Rd 0 W.heap.size W sz u xs.length (xs.flatMap f) := by
  obtain ⟨u, css, xs, rfl, hR, hx⟩ := h.rows (Φ := fun a cs => cs = f a) ht hc hsz (fun a cs h => by rw [h]; exact hl a) he
  rw [rows_flat xs css hR.1 hl hx] at hR
  exact ⟨u, xs, rfl, hR⟩
/-- an argument of a struct's type -/
theorem rdt_agg {fs : Array Field} {base : Nat} {v : Value} {d : DataW H} {ps : List MemPlace} (ht : P.underlying t = some (.struct fs)) (hv : Value.okWide P W .any base t v) (h : DataW.Trod enc P W 0 (fun _ => true) true t v d ps) : ∃ cs : List Value, v = .agg cs.toArray ∧ Rdt enc P W t cs := by
  obtain ⟨fuel, h⟩ := h
  unfold Value.okWide at hv
  simp only [ht] at hv
  obtain ⟨cs, rfl, -, -⟩ := hv
  exact ⟨cs.toList, rfl, fuel, _, h⟩
end
end Go.Proofs.YtmdededhoibofaaGreat

namespace Go.Proofs.YtmdededhoibofaaGreat
open Go.ChangeShapes Go.WideShapes Go.ChangeAt Go.RowKit Go.Joins
section
variable {H : Type} {enc : TypeId × Value → H} {W : World} {cs : List Value}
theorem rdt_nm (h : Rdt enc Tryz.prog W 24 cs) : ∃ n : Nm, cs = n.cells.toList := by
  have hl := h.len_struct Tryz.underlying24
  rw [show Tryz.prog.cellsOf 24 = 3 by kernel_rfl] at hl
  match cs, hl with
  | [c0, c1, c2], _ =>
    have k1 : Tryz.prog.cellsOf 3 = 1 := by kernel_rfl
    obtain ⟨z0, e0, -⟩ := (show Rdt enc Tryz.prog W 3 [c0] from h.field Tryz.underlying24 0 rfl k1).i64 Tryz.underlying3
    obtain ⟨z1, e1, -⟩ := (show Rdt enc Tryz.prog W 3 [c1] from h.field Tryz.underlying24 1 rfl k1).i64 Tryz.underlying3
    obtain ⟨z2, e2, -⟩ := (show Rdt enc Tryz.prog W 3 [c2] from h.field Tryz.underlying24 2 rfl k1).i64 Tryz.underlying3
    cases e0; cases e1; cases e2
    exact ⟨⟨z0, z1, z2⟩, rfl⟩
theorem rdt_v8 (h : Rdt enc Tryz.prog W 144 cs) : ∃ v : V8, cs = v.cellsL := by
  have hl := h.len_array Tryz.underlying144
  rw [show Tryz.prog.cellsOf 144 = 8 by kernel_rfl] at hl
  match cs, hl with
  | [c0, c1, c2, c3, c4, c5, c6, c7], _ =>
    have k1 : Tryz.prog.cellsOf 5 = 1 := by kernel_rfl
    obtain ⟨z0, e0⟩ := (show Rdt enc Tryz.prog W 5 [c0] from h.elem Tryz.underlying144 k1 0 (by omega)).u8 Tryz.underlying5
    obtain ⟨z1, e1⟩ := (show Rdt enc Tryz.prog W 5 [c1] from h.elem Tryz.underlying144 k1 1 (by omega)).u8 Tryz.underlying5
    obtain ⟨z2, e2⟩ := (show Rdt enc Tryz.prog W 5 [c2] from h.elem Tryz.underlying144 k1 2 (by omega)).u8 Tryz.underlying5
    obtain ⟨z3, e3⟩ := (show Rdt enc Tryz.prog W 5 [c3] from h.elem Tryz.underlying144 k1 3 (by omega)).u8 Tryz.underlying5
    obtain ⟨z4, e4⟩ := (show Rdt enc Tryz.prog W 5 [c4] from h.elem Tryz.underlying144 k1 4 (by omega)).u8 Tryz.underlying5
    obtain ⟨z5, e5⟩ := (show Rdt enc Tryz.prog W 5 [c5] from h.elem Tryz.underlying144 k1 5 (by omega)).u8 Tryz.underlying5
    obtain ⟨z6, e6⟩ := (show Rdt enc Tryz.prog W 5 [c6] from h.elem Tryz.underlying144 k1 6 (by omega)).u8 Tryz.underlying5
    obtain ⟨z7, e7⟩ := (show Rdt enc Tryz.prog W 5 [c7] from h.elem Tryz.underlying144 k1 7 (by omega)).u8 Tryz.underlying5
    cases e0; cases e1; cases e2; cases e3; cases e4; cases e5; cases e6; cases e7
    exact ⟨⟨z0, z1, z2, z3, z4, z5, z6, z7⟩, rfl⟩
theorem rdt_wr (h : Rdt enc Tryz.prog W 146 cs) : ∃ x : Wr, cs = x.cellsL := by
  have hl := h.len_struct Tryz.underlying146
  rw [show Tryz.prog.cellsOf 146 = 9 by kernel_rfl] at hl
  match cs, hl with
  | [c0, c1, c2, c3, c4, c5, c6, c7, c8], _ =>
    obtain ⟨z0, e0, -⟩ := (show Rdt enc Tryz.prog W 3 [c0] from h.field Tryz.underlying146 0 rfl (k := 1) (by kernel_rfl)).i64 Tryz.underlying3
    obtain ⟨v, e1⟩ := rdt_v8 (show Rdt enc Tryz.prog W 144 [c1, c2, c3, c4, c5, c6, c7, c8] from h.field Tryz.underlying146 1 rfl (k := 8) (by kernel_rfl))
    cases e0
    exact ⟨⟨z0, v⟩, by rw [e1]⟩
theorem rdt_ws {t : TypeId} (h : Rdt enc Tryz.prog W t cs) (ht : Tryz.prog.underlying t = some (.slice 146)) : ∃ u x, cs = [u] ∧ Ws 0 W.heap.size W u x :=
  h.flat (f := Wr.cellsL) ht (by kernel_rfl) (by omega) (fun _ => rfl) (fun _ h => rdt_wr h)
theorem rdt_rec (h : Rdt enc Tryz.prog W 29 cs) : ∃ (r : Rc) (v : Value) (x : List Wr), cs = (r.cells v).toList ∧ Ws 0 W.heap.size W v x ∧ (-128 ≤ r.kind ∧ r.kind ≤ 127) ∧ r.shards ≤ 9223372036854775807 := by
  have hl := h.len_struct Tryz.underlying29
  rw [show Tryz.prog.cellsOf 29 = 12 by kernel_rfl] at hl
  match cs, hl with
  | [c0, c1, c2, c3, c4, c5, c6, c7, c8, c9, c10, c11], _ =>
    have k1 : Tryz.prog.cellsOf 3 = 1 := by kernel_rfl
    obtain ⟨z0, e0, hz0⟩ := (show Rdt enc Tryz.prog W 22 [c0] from h.field Tryz.underlying29 0 rfl (k := 1) (by kernel_rfl)).int Tryz.underlying22
    obtain ⟨n, e1⟩ := rdt_nm (show Rdt enc Tryz.prog W 24 [c1, c2, c3] from h.field Tryz.underlying29 1 rfl (k := 3) (by kernel_rfl))
    obtain ⟨y, e4⟩ := (show Rdt enc Tryz.prog W 4 [c4] from h.field Tryz.underlying29 2 rfl (k := 1) (by kernel_rfl)).bool Tryz.underlying4
    obtain ⟨u, x, e5, hw⟩ := rdt_ws (show Rdt enc Tryz.prog W 25 [c5] from h.field Tryz.underlying29 3 rfl (k := 1) (by kernel_rfl)) Tryz.underlying25
    obtain ⟨z6, e6, -⟩ := (show Rdt enc Tryz.prog W 3 [c6] from h.field Tryz.underlying29 4 rfl k1).i64 Tryz.underlying3
    obtain ⟨z7, e7, -⟩ := (show Rdt enc Tryz.prog W 3 [c7] from h.field Tryz.underlying29 5 rfl k1).i64 Tryz.underlying3
    obtain ⟨z8, e8, hz8⟩ := (show Rdt enc Tryz.prog W 3 [c8] from h.field Tryz.underlying29 6 rfl k1).i64 Tryz.underlying3
    have hc := (show Rdt enc Tryz.prog W 27 [c9, c10] from h.field Tryz.underlying29 7 rfl (k := 2) (by kernel_rfl))
    obtain ⟨z9, e9, -⟩ := (show Rdt enc Tryz.prog W 3 [c9] from hc.field Tryz.underlying27 0 rfl k1).i64 Tryz.underlying3
    obtain ⟨z10, e10, -⟩ := (show Rdt enc Tryz.prog W 3 [c10] from hc.field Tryz.underlying27 1 rfl k1).i64 Tryz.underlying3
    obtain ⟨z11, e11, -⟩ := (show Rdt enc Tryz.prog W 3 [c11] from h.field Tryz.underlying29 8 rfl k1).i64 Tryz.underlying3
    have e1' : c1 = .int .i64 n.stamp ∧ c2 = .int .i64 n.inc ∧ c3 = .int .i64 n.try_ := by simpa using e1
    obtain ⟨rfl, rfl, rfl⟩ := e1'
    cases e0; cases e4; cases e5; cases e6; cases e7; cases e8; cases e9; cases e10; cases e11
    have m1 : IntKind.i8.min = -128 := rfl
    have m2 : IntKind.i8.max = 127 := rfl
    exact ⟨⟨z0, n, y, z6, z7, z8, z9, z10, z11⟩, c5, x, rfl, hw, by simp only; omega, hz8.2⟩
end
end Go.Proofs.YtmdededhoibofaaGreat

namespace Go.Proofs.YtmdededhoibofaaGreat
open Go.ChangeShapes Go.WideShapes Go.ChangeAt Go.RowKit Go.Joins
section
variable {H : Type} {enc : TypeId × Value → H} {W : World} {cs : List Value}
/-- an argument of an array's type -/
theorem rdt_arr {P : Program} {t : TypeId} {m : Nat} {e : TypeId} {base : Nat} {v : Value} {d : DataW H} {ps : List MemPlace} (ht : P.underlying t = some (.array m e)) (hv : Value.okWide P W .any base t v) (h : DataW.Trod enc P W 0 (fun _ => true) true t v d ps) : ∃ cs : List Value, v = .agg cs.toArray ∧ Rdt enc P W t cs := by
  obtain ⟨fuel, h⟩ := h
  unfold Value.okWide at hv
  simp only [ht] at hv
  obtain ⟨cs, rfl, -, -⟩ := hv
  exact ⟨cs.toList, rfl, fuel, _, h⟩
theorem rdt_m8 (h : Rdt enc Tryz.prog W 30 cs) : ∃ z0 z1 z2 z3 z4 z5 z6 z7 : Int, cs = [.int .i64 z0, .int .i64 z1, .int .i64 z2, .int .i64 z3, .int .i64 z4, .int .i64 z5, .int .i64 z6, .int .i64 z7] := by
  have hl := h.len_array Tryz.underlying30
  rw [show Tryz.prog.cellsOf 30 = 8 by kernel_rfl] at hl
  match cs, hl with
  | [c0, c1, c2, c3, c4, c5, c6, c7], _ =>
    have k1 : Tryz.prog.cellsOf 3 = 1 := by kernel_rfl
    obtain ⟨z0, e0, -⟩ := (show Rdt enc Tryz.prog W 3 [c0] from h.elem Tryz.underlying30 k1 0 (by omega)).i64 Tryz.underlying3
    obtain ⟨z1, e1, -⟩ := (show Rdt enc Tryz.prog W 3 [c1] from h.elem Tryz.underlying30 k1 1 (by omega)).i64 Tryz.underlying3
    obtain ⟨z2, e2, -⟩ := (show Rdt enc Tryz.prog W 3 [c2] from h.elem Tryz.underlying30 k1 2 (by omega)).i64 Tryz.underlying3
    obtain ⟨z3, e3, -⟩ := (show Rdt enc Tryz.prog W 3 [c3] from h.elem Tryz.underlying30 k1 3 (by omega)).i64 Tryz.underlying3
    obtain ⟨z4, e4, -⟩ := (show Rdt enc Tryz.prog W 3 [c4] from h.elem Tryz.underlying30 k1 4 (by omega)).i64 Tryz.underlying3
    obtain ⟨z5, e5, -⟩ := (show Rdt enc Tryz.prog W 3 [c5] from h.elem Tryz.underlying30 k1 5 (by omega)).i64 Tryz.underlying3
    obtain ⟨z6, e6, -⟩ := (show Rdt enc Tryz.prog W 3 [c6] from h.elem Tryz.underlying30 k1 6 (by omega)).i64 Tryz.underlying3
    obtain ⟨z7, e7, -⟩ := (show Rdt enc Tryz.prog W 3 [c7] from h.elem Tryz.underlying30 k1 7 (by omega)).i64 Tryz.underlying3
    cases e0; cases e1; cases e2; cases e3; cases e4; cases e5; cases e6; cases e7
    exact ⟨_, _, _, _, _, _, _, _, rfl⟩
end
end Go.Proofs.YtmdededhoibofaaGreat

