/- spec.AddToColumn: two tables of its own, a number of each row of the first one changed where it lies. -/
import Derived.WalkKit
import Derived.Test.YteikfmoklpokhaaQAx0
import Derived.Test.YteikfmoklpokhaaQAx1
import Derived.Test.YteikfmoklpokhaaQAx5
import Derived.Test.YteikfmoklpokhaaQAx2
import Derived.Test.YteikfmoklpokhaaQAOwn
import Derived.Test.YteikfmoklpokhaaQAOwnG
import Derived.Test.YteikfmoklpokhaaQAEqs
namespace Go.Proofs.Yteikfmoklpokhaa.Own
open Go.RowKit Go.Proofs.Yteikfmoklpokhaa.All Go.Proofs.Yteikfmoklpokhaa.Eqs Go.Proofs.YteikfmoklpokhaaW.PrintWords Go.Proofs.YteikfmoklpokhaaW.PrintLast Go.Proofs.YteikfmoklpokhaaW.PrintMore
set_option linter.unusedVariables false
set_option linter.unusedSimpArgs false
def addRow (j kk : Int) (l : List Int) : List Int := l.set j.toNat (wrap64 (rd l j + kk))
def addS (j kk : Int) (ls : List (List Int)) : List (List Int) := ls.map (addRow j kk)
def addAll (j : Int) (ls : List (List Int)) : Bool := ls.all fun r => decide (0 ≤ j) && decide (j < (r.length : Int))
def spec_addGood.f (k : Nat) (j kk : Int) (a b : List (List Int)) : Option Bool := if addAll j a = true then spec_gmGood.f k (addS j kk a) b else none
theorem addS_length (j kk : Int) (ls : List (List Int)) : (addS j kk ls).length = ls.length := by simp [addS]
theorem addS_in {j : Int} {ls : List (List Int)} (h : addAll j ls = true) (i : Nat) (hi : i < ls.length) : 0 ≤ j ∧ j < ((ls.getD i []).length : Int) := by
  have := List.all_eq_true.mp h (ls.getD i []) (by simp [List.getD, List.getElem?_eq_getElem hi])
  simpa using this
theorem addS_at (j kk : Int) (ls : List (List Int)) (i : Nat) (hi : i < ls.length) : (addS j kk (ls.take i) ++ ls.drop i).getD i [] = ls.getD i [] := by
  have hl : (addS j kk (ls.take i)).length = i := by simp [addS]; omega
  simp only [List.getD]
  rw [List.getElem?_append_right (by omega), hl, Nat.sub_self, List.getElem?_drop, Nat.add_zero]
theorem addS_step (j kk : Int) (ls : List (List Int)) (i : Nat) (hi : i < ls.length) : (addS j kk (ls.take i) ++ ls.drop i).set i (addRow j kk (ls.getD i [])) = addS j kk (ls.take (i + 1)) ++ ls.drop (i + 1) := by
  have hl : (addS j kk (ls.take i)).length = i := by simp [addS]; omega
  rw [List.set_append_right _ _ (by omega), hl, Nat.sub_self, List.drop_eq_getElem_cons hi, List.set_cons_zero, List.take_succ_eq_append_getElem hi]
  show _ = List.map _ (ls.take i ++ [ls[i]]) ++ _
  rw [List.map_append, List.append_assoc, show ls.getD i [] = ls[i] by simp [List.getD, List.getElem?_eq_getElem hi]]
  rfl
/-- Both tables lie in ranges of blocks, the second one's behind the first one's; the print's variable lies in neither. -/
def RangesF (w : World) (gx gr : Nat) (a b : List (List Int)) (s : Value × Value × Nat) (w' : World) : Prop := ∃ loA hiA loB hiB : Nat, w.heap.size ≤ loA ∧ w.heap.size ≤ loB ∧ gr < loA ∧ gr < loB ∧ hiA ≤ loB ∧ (s.2.2 < loA ∨ hiA ≤ s.2.2) ∧ (s.2.2 < loB ∨ hiB ≤ s.2.2) ∧ OS w' loA hiA s.1 a ∧ OS w' loB hiB s.2.1 b
def spec_AddToColumn.j0 (a1 a2 : Int) : Nat → Bool → List (List Int) → List (List Int) → Option ((List (List Int)) × (List (List Int)) × Bool)
  | 0, _, _, _ => none
  | k + 1, x28, x173000, x173001 => if x28 = true then (some (([] : List (List Int)), ([] : List (List Int)), false)) else ((spec_gmOwn.f k x173000).bind fun t178 => ((spec_gmOwn.f k x173001).bind fun t181 => ((spec_addGood.f k a1 a2 t178 t181).bind fun t185 => (if t185 = true then (some (addS a1 a2 t178, t181, true)) else (some (([] : List (List Int)), ([] : List (List Int)), false))))))
def spec_AddToColumn.f (k : Nat) (l0_0 : List (List Int)) (l0_1 : List (List Int)) (a1 : Int) (a2 : Int) : Option ((List (List Int)) × (List (List Int)) × Bool) := (spec_gmGood.f k l0_0 l0_1).bind fun t174 => (if t174 = true then (if 0 < (l0_0.length : Int) then ((spec_l1In.f a1 0 (wrap64 (((rd_L1 l0_0 0).length : Int) - 1))).bind fun t176 => (if t176 = true then ((spec_l1In.f a2 (-20) 20).bind fun t177 => (spec_AddToColumn.j0 a1 a2 k (!t177) l0_0 l0_1)) else (spec_AddToColumn.j0 a1 a2 k true l0_0 l0_1))) else (none)) else (spec_AddToColumn.j0 a1 a2 k true l0_0 l0_1))
def spec_AddToColumn.T3 : Bool × List (List Nat × List Nat) := (true, [([], []), ([0], [0]), ([1], [1]), ([], []), ([3], [3]), ([4, 2], [4]), ([2, 5], [2, 5]), ([], []), ([7, 6, 5, 0, 1, 2, 3, 4, 5, 6, 7], [6, 7])])
def spec_AddToColumn.B3 : List Nat := [0, 1, 3, 0, 8, 31, 63, 0, 255]
theorem spec_AddToColumn.tab3 : rtab .any (opsOf Try.f35 3) = spec_AddToColumn.T3 := by kernel_rfl
theorem spec_AddToColumn.bits3 : waitsOk spec_AddToColumn.T3.2 spec_AddToColumn.B3 = true := by kernel_rfl
set_option maxHeartbeats 8000000 in
set_option maxRecDepth 100000 in
theorem spec_AddToColumn_own.calls (k : Nat) (A0_0 : Option Addr) (c0_0 : Nat) (l0_0 : List (List Int)) (A0_1 : Option Addr) (c0_1 : Nat) (l0_1 : List (List Int)) (a1 : Int) (a2 : Int) (r1 : List (List Int)) (r2 : List (List Int)) (r3 : Bool) (w : World) (hr0_0 : Kd.C (Kd.slice 3 (Kd.int .i64)) w A0_0 l0_0.length l0_0) (hc0_0 : l0_0.length ≤ c0_0) (hr0_1 : Kd.C (Kd.slice 3 (Kd.int .i64)) w A0_1 l0_1.length l0_1) (hc0_1 : l0_1.length ≤ c0_1) (h : spec_AddToColumn.f k l0_0 l0_1 a1 a2 = some (r1, r2, r3)) :
    Calls Try.prog 35 #[.agg #[.slice A0_0 l0_0.length c0_0, .slice A0_1 l0_1.length c0_1], .int .i64 a1, .int .i64 a2] w fun e w' => ∃ v0_ v1_ : Value, e = .returned (.tuple #[.agg #[v0_, v1_], .bool r3]) ∧ Kd.S dI 22 w' w.heap.size (fun _ => True) v0_ r1 ∧ Kd.S dI 22 w' w.heap.size (fun _ => True) v1_ r2 ∧ Below w.heap.size w w' := by
  have hu33 := Try.underlying33
  have HR0_0 := Aside0.mk hr0_0
  have HC0_0 := Aside0.mk hc0_0
  clear hr0_0 hc0_0
  have HR0_1 := Aside0.mk hr0_1
  have HC0_1 := Aside0.mk hc0_1
  clear hr0_1 hc0_1
  have HB := Aside0.mk (Below.refl w.heap.size w)
  have H : ((spec_gmGood.f k l0_0 l0_1).bind fun t174 => (if t174 = true then (if 0 < (l0_0.length : Int) then ((spec_l1In.f a1 0 (wrap64 (((rd_L1 l0_0 0).length : Int) - 1))).bind fun t176 => (if t176 = true then ((spec_l1In.f a2 (-20) 20).bind fun t177 => (spec_AddToColumn.j0 a1 a2 k (!t177) l0_0 l0_1)) else (spec_AddToColumn.j0 a1 a2 k true l0_0 l0_1))) else (none)) else (spec_AddToColumn.j0 a1 a2 k true l0_0 l0_1))) = some (r1, r2, r3) := h
  clear h
  have HC4 := Aside0.mk H
  clear H
  go_enter Try.func35, Try.ntmps35
  go_upto_region 1 with (first | ((with_reducible refine gate_dst (N := 3) rfl ?_); (try (refine gate_guard (by rfl) ?_; dsimp only)); refine box_event ?hg (N := 3) ?hd (cs := #[.slice A0_0 l0_0.length c0_0, .slice A0_1 l0_1.length c0_1]) (t := 33) ?hr ?_; (case hd => rfl); (case hg => rfl); (case hr => first | (go_simp; done) | (go_simp; rfl)); intro gb172 hg w5 hbox hb; have n0_ := Aside0.mk (below_step (by repeat (first | (with_reducible first | exact HB.out | apply below_alloc | apply pw_below_drewN | apply below_drew1) | exact HB.out)) hb); have n1_ := Aside0.mk (hbox); have n2_ := Aside0.mk ((by rw [hg]; exact (below_size (by repeat (first | (with_reducible first | exact HB.out | apply below_alloc | apply pw_below_drewN | apply below_drew1) | exact HB.out))) : w.heap.size ≤ gb172)); have n3_ := Aside0.mk ((by rw [hg]; exact (below_size (by repeat (first | (with_reducible first | exact HB.out | apply below_alloc | apply pw_below_drewN | apply below_drew1) | exact HB.out))) : w.heap.size ≤ gb172)); clear HB; have HB := n0_; have BK172 := n1_; have GW172 := n2_; have GE172 := n3_; clear n0_ n1_ n2_ n3_; clear hb hbox hg) | ((with_reducible refine gate_dst (N := 6) rfl ?_); (try (refine gate_guard (by rfl) ?_; dsimp only)); refine box_event ?hg (N := 6) ?hd (cs := #[.slice none 0 0, .slice none 0 0]) (t := 33) ?hr ?_; (case hd => rfl); (case hg => rfl); (case hr => first | (go_simp; done) | (go_simp; rfl)); intro gb173 hg w6 hbox hb; have n0_ := Aside0.mk (blk_below (g := gb172) (o := .cells #[.slice A0_0 l0_0.length c0_0, .slice A0_1 l0_1.length c0_1] 33 (0, 0)) (by (with_reducible repeat (first | refine blk_drewN ?_ _ | refine blk_drew ?_ | refine blk_alloc ?_ _)); exact BK172.out) hb); have n1_ := Aside0.mk (below_step (by repeat (first | (with_reducible first | exact HB.out | apply below_alloc | apply pw_below_drewN | apply below_drew1 | refine below_set ?_ GE172.out) | exact HB.out)) hb); have n2_ := Aside0.mk (hbox); have n3_ := Aside0.mk ((by rw [hg]; exact (below_size (by repeat (first | (with_reducible first | exact HB.out | apply below_alloc | apply pw_below_drewN | apply below_drew1 | refine below_set ?_ GE172.out) | exact HB.out))) : w.heap.size ≤ gb173)); have n4_ := Aside0.mk ((by rw [hg]; exact (below_size (by repeat (first | (with_reducible first | exact HB.out | apply below_alloc | apply pw_below_drewN | apply below_drew1 | refine below_set ?_ GE172.out) | exact HB.out))) : w.heap.size ≤ gb173)); have n5_ := Aside0.mk ((by rw [hg]; exact Nat.ne_of_lt (blk_lt (g := gb172) (o := .cells #[.slice A0_0 l0_0.length c0_0, .slice A0_1 l0_1.length c0_1] 33 (0, 0)) (by (with_reducible repeat (first | refine blk_drewN ?_ _ | refine blk_drew ?_ | refine blk_alloc ?_ _)); exact BK172.out)) : gb172 ≠ gb173)); have n6_ := Aside0.mk ((by rw [hg]; exact Nat.ne_of_gt (blk_lt (g := gb172) (o := .cells #[.slice A0_0 l0_0.length c0_0, .slice A0_1 l0_1.length c0_1] 33 (0, 0)) (by (with_reducible repeat (first | refine blk_drewN ?_ _ | refine blk_drew ?_ | refine blk_alloc ?_ _)); exact BK172.out)) : gb173 ≠ gb172)); clear BK172; clear HB; have BK172 := n0_; have HB := n1_; have BK173 := n2_; have GW173 := n3_; have GE173 := n4_; have NB172_173 := n5_; have NB173_172 := n6_; clear n0_ n1_ n2_ n3_ n4_ n5_ n6_; clear hb hbox hg))
  (try simp only [Act.put, List.setIfInBounds_toArray, List.set_cons_zero, List.set_cons_succ])
  go_cut [28] (fun v28 wc => ∃ (kq : Nat) (x28_3 : Bool), v28 = .bool x28_3 ∧ Aside0 (spec_AddToColumn.j0 a1 a2 kq x28_3 l0_0 l0_1 = some (r1, r2, r3)) ∧ Aside0 (kq ≤ k) ∧ Aside0 (wc.heap[gb172]? = some (.cells #[(.slice A0_0 l0_0.length c0_0), (.slice A0_1 l0_1.length c0_1)] 33 (0, 0))) ∧ Aside0 (wc.heap[gb173]? = some (.cells #[(.slice none 0 0), (.slice none 0 0)] 33 (0, 0))) ∧ Aside0 (Below w.heap.size w wc))
  case first =>
    have H := HC4.out
    clear HC4
    replace H := Option.bind_eq_some_iff.mp H
    obtain ⟨t174, A70, H⟩ := H
    replace H : (if t174 = true then (if 0 < (l0_0.length : Int) then ((spec_l1In.f a1 0 (wrap64 (((rd_L1 l0_0 0).length : Int) - 1))).bind fun t176 => (if t176 = true then ((spec_l1In.f a2 (-20) 20).bind fun t177 => (spec_AddToColumn.j0 a1 a2 k (!t177) l0_0 l0_1)) else (spec_AddToColumn.j0 a1 a2 k true l0_0 l0_1))) else (none)) else (spec_AddToColumn.j0 a1 a2 k true l0_0 l0_1)) = some (r1, r2, r3) := H
    have A7 := Aside0.mk A70
    clear A70
    by_cases c8 : t174 = true
    · subst c8
      have H1 : (if 0 < (l0_0.length : Int) then ((spec_l1In.f a1 0 (wrap64 (((rd_L1 l0_0 0).length : Int) - 1))).bind fun t176 => (if t176 = true then ((spec_l1In.f a2 (-20) 20).bind fun t177 => (spec_AddToColumn.j0 a1 a2 k (!t177) l0_0 l0_1)) else (spec_AddToColumn.j0 a1 a2 k true l0_0 l0_1))) else (none)) = some (r1, r2, r3) := by rw [if_pos rfl] at H; first | exact H | (rw [if_pos trivial] at H; rw [if_pos rfl]; exact H)
      clear H
      have H := H1
      clear H1
      by_cases c9 : 0 < (l0_0.length : Int)
      · rw [if_pos c9] at H
        have c9b0 : decide (0 < (l0_0.length : Int)) = true := decide_eq_true c9
        have c9b1 : decide (0 < l0_0.length) = true := decide_eq_true (by omega)
        clear c9
        (first | rw [c9b0] | (simp only [i64_w, i32_w]; rw [c9b0]) | skip)
        replace H := Option.bind_eq_some_iff.mp H
        obtain ⟨t176, A100, H⟩ := H
        replace H : (if t176 = true then ((spec_l1In.f a2 (-20) 20).bind fun t177 => (spec_AddToColumn.j0 a1 a2 k (!t177) l0_0 l0_1)) else (spec_AddToColumn.j0 a1 a2 k true l0_0 l0_1)) = some (r1, r2, r3) := H
        have A10 := Aside0.mk A100
        clear A100
        by_cases c11 : t176 = true
        · subst c11
          have H1 : ((spec_l1In.f a2 (-20) 20).bind fun t177 => (spec_AddToColumn.j0 a1 a2 k (!t177) l0_0 l0_1)) = some (r1, r2, r3) := by rw [if_pos rfl] at H; first | exact H | (rw [if_pos trivial] at H; rw [if_pos rfl]; exact H)
          clear H
          have H := H1
          clear H1
          replace H := Option.bind_eq_some_iff.mp H
          obtain ⟨t177, A120, H⟩ := H
          replace H : (spec_AddToColumn.j0 a1 a2 k (!t177) l0_0 l0_1) = some (r1, r2, r3) := H
          have A12 := Aside0.mk A120
          clear A120
          have H' := Aside0.mk H
          clear H
          have hnb13 := NB172_173.out
          have hnc13 := NB173_172.out
          have hcz14_0 : w6.cell? ⟨gb172, 0, none⟩ = some (.slice A0_0 l0_0.length c0_0) := (blk_cell BK172.out 0).trans rfl
          have hcz14_1 : w6.cell? ⟨gb172, 1, none⟩ = some (.slice A0_1 l0_1.length c0_1) := (blk_cell BK172.out 1).trans rfl
          have hfz14_0 := blk_frozen BK172.out 0
          have hfz14_1 := blk_frozen BK172.out 1
          go_wp2_with (first | ((with_reducible refine gate_callee (f := 63) rfl ?_); refine goesL_ (some 11) rfl rfl Try.func63 (by kernel_rfl) rfl #[.agg #[.slice A0_0 l0_0.length c0_0, .slice A0_1 l0_1.length c0_1]] rfl (by (try simp only [List.map_toArray, List.map_cons, List.map_nil]); first | done | rfl | (simp only [List.length_drop, List.length_take]; rfl)) ?_; (with_reducible refine (spec_gmGood.calls k _ _ l0_0 _ _ l0_1 true _ ?side1 ?side2 ?side3 ?side4 A7.out).mono ?_); (case side1 => repeat (first | exact (Kd.C_below HR0_0.out HB.out) | (with_reducible refine Kd.C_alloc ?_ _) | (with_reducible refine Kd.C_drewN ?_ _) | (with_reducible refine Kd.C_drew ?_))); (case side2 => exact HC0_0.out); (case side3 => repeat (first | exact (Kd.C_below HR0_1.out HB.out) | (with_reducible refine Kd.C_alloc ?_ _) | (with_reducible refine Kd.C_drewN ?_ _) | (with_reducible refine Kd.C_drew ?_))); (case side4 => exact HC0_1.out); rintro e w15 ⟨rfl, hb⟩; refine ⟨_, rfl, ?_⟩; have n0_ := Aside0.mk (blk_below (g := gb172) (o := .cells #[.slice A0_0 l0_0.length c0_0, .slice A0_1 l0_1.length c0_1] 33 (0, 0)) (by (with_reducible repeat (first | refine blk_drewN ?_ _ | refine blk_drew ?_ | refine blk_alloc ?_ _)); exact BK172.out) hb); have n1_ := Aside0.mk (blk_below (g := gb173) (o := .cells #[.slice none 0 0, .slice none 0 0] 33 (0, 0)) (by (with_reducible repeat (first | refine blk_drewN ?_ _ | refine blk_drew ?_ | refine blk_alloc ?_ _)); exact BK173.out) hb); have n2_ := Aside0.mk (below_step (by repeat (first | (with_reducible first | exact HB.out | apply below_alloc | apply pw_below_drewN | apply below_drew1 | refine below_set ?_ GE172.out | refine below_set ?_ GE173.out) | exact HB.out)) hb); clear BK172; clear BK173; clear HB; have BK172 := n0_; have BK173 := n1_; have HB := n2_; clear n0_ n1_ n2_; (try clear hb); (try clear hb2); (try clear hk); (try clear hi); have hcz16_0 : w15.cell? ⟨gb172, 0, none⟩ = some (.slice A0_0 l0_0.length c0_0) := (blk_cell BK172.out 0).trans rfl; have hcz16_1 : w15.cell? ⟨gb172, 1, none⟩ = some (.slice A0_1 l0_1.length c0_1) := (blk_cell BK172.out 1).trans rfl; have hfz16_0 := blk_frozen BK172.out 0; have hfz16_1 := blk_frozen BK172.out 1; have p175 : 0 ≤ (0 : Int) := (by omega); have q175 : 0 < (l0_0.length : Int) := of_decide_eq_true (by first | (with_reducible assumption) | assumption); obtain ⟨ad175, A175_0, c175_0, e175, hx175_0, hl175_0, hi175_0⟩ := at_L1 HR0_0.out 0 p175 q175; cases e175; have qi175 : (0 < l0_0.length) = True := eq_true (by omega); (try rw [show ((0 : Int)).toNat = 0 from rfl] at hx175_0); (try rw [Addr.add_zero'] at hx175_0); replace hx175_0 := (HB.out.cell (World.block_lt_of_cell? w _ hx175_0)).trans hx175_0; have HR175_0 := Aside0.mk hi175_0; have HC175_0 := Aside0.mk hl175_0; clear hi175_0 hl175_0; replace p175 := eq_true p175; replace q175 := eq_true q175) | (go_at_call 59; (with_reducible refine (spec_l1In.calls a1 0 (wrap64 (((rd_L1 l0_0 0).length : Int) - 1)) true _ A10.out).mono ?_); rintro e w' ⟨rfl, ⟨nd, rfl⟩⟩) | (go_at_call 59; (with_reducible refine (spec_l1In.calls a2 (-20) 20 t177 _ A12.out).mono ?_); rintro e w' ⟨rfl, ⟨nd, rfl⟩⟩))
          go_meet
          case rel => exact ⟨_, (!t177), (by first | rfl | (simp; done) | (simp [*]; done) | (simp [i64_w]; done)), H', ⟨by first | omega | exact Nat.le_refl _⟩, ⟨by (with_reducible repeat (first | refine blk_drewN ?_ _ | refine blk_drew ?_ | refine blk_alloc ?_ _)); exact BK172.out⟩, ⟨by (with_reducible repeat (first | refine blk_drewN ?_ _ | refine blk_drew ?_ | refine blk_alloc ?_ _)); exact BK173.out⟩, ⟨by repeat (first | (with_reducible first | exact HB.out | apply below_alloc | apply pw_below_drewN | apply below_drew1 | refine below_set ?_ GE172.out | refine below_set ?_ GE173.out) | exact HB.out)⟩⟩
        · replace c11 := Bool.eq_false_iff.mpr c11
          subst c11
          have H1 : (spec_AddToColumn.j0 a1 a2 k true l0_0 l0_1) = some (r1, r2, r3) := by rw [if_neg (show ¬ (false = true) by decide)] at H; exact H
          clear H
          have H := H1
          clear H1
          have H' := Aside0.mk H
          clear H
          have hnb17 := NB172_173.out
          have hnc17 := NB173_172.out
          have hcz18_0 : w6.cell? ⟨gb172, 0, none⟩ = some (.slice A0_0 l0_0.length c0_0) := (blk_cell BK172.out 0).trans rfl
          have hcz18_1 : w6.cell? ⟨gb172, 1, none⟩ = some (.slice A0_1 l0_1.length c0_1) := (blk_cell BK172.out 1).trans rfl
          have hfz18_0 := blk_frozen BK172.out 0
          have hfz18_1 := blk_frozen BK172.out 1
          go_wp2_with (first | ((with_reducible refine gate_callee (f := 63) rfl ?_); refine goesL_ (some 11) rfl rfl Try.func63 (by kernel_rfl) rfl #[.agg #[.slice A0_0 l0_0.length c0_0, .slice A0_1 l0_1.length c0_1]] rfl (by (try simp only [List.map_toArray, List.map_cons, List.map_nil]); first | done | rfl | (simp only [List.length_drop, List.length_take]; rfl)) ?_; (with_reducible refine (spec_gmGood.calls k _ _ l0_0 _ _ l0_1 true _ ?side1 ?side2 ?side3 ?side4 A7.out).mono ?_); (case side1 => repeat (first | exact (Kd.C_below HR0_0.out HB.out) | (with_reducible refine Kd.C_alloc ?_ _) | (with_reducible refine Kd.C_drewN ?_ _) | (with_reducible refine Kd.C_drew ?_))); (case side2 => exact HC0_0.out); (case side3 => repeat (first | exact (Kd.C_below HR0_1.out HB.out) | (with_reducible refine Kd.C_alloc ?_ _) | (with_reducible refine Kd.C_drewN ?_ _) | (with_reducible refine Kd.C_drew ?_))); (case side4 => exact HC0_1.out); rintro e w19 ⟨rfl, hb⟩; refine ⟨_, rfl, ?_⟩; have n0_ := Aside0.mk (blk_below (g := gb172) (o := .cells #[.slice A0_0 l0_0.length c0_0, .slice A0_1 l0_1.length c0_1] 33 (0, 0)) (by (with_reducible repeat (first | refine blk_drewN ?_ _ | refine blk_drew ?_ | refine blk_alloc ?_ _)); exact BK172.out) hb); have n1_ := Aside0.mk (blk_below (g := gb173) (o := .cells #[.slice none 0 0, .slice none 0 0] 33 (0, 0)) (by (with_reducible repeat (first | refine blk_drewN ?_ _ | refine blk_drew ?_ | refine blk_alloc ?_ _)); exact BK173.out) hb); have n2_ := Aside0.mk (below_step (by repeat (first | (with_reducible first | exact HB.out | apply below_alloc | apply pw_below_drewN | apply below_drew1 | refine below_set ?_ GE172.out | refine below_set ?_ GE173.out) | exact HB.out)) hb); clear BK172; clear BK173; clear HB; have BK172 := n0_; have BK173 := n1_; have HB := n2_; clear n0_ n1_ n2_; (try clear hb); (try clear hb2); (try clear hk); (try clear hi); have hcz20_0 : w19.cell? ⟨gb172, 0, none⟩ = some (.slice A0_0 l0_0.length c0_0) := (blk_cell BK172.out 0).trans rfl; have hcz20_1 : w19.cell? ⟨gb172, 1, none⟩ = some (.slice A0_1 l0_1.length c0_1) := (blk_cell BK172.out 1).trans rfl; have hfz20_0 := blk_frozen BK172.out 0; have hfz20_1 := blk_frozen BK172.out 1; have p175 : 0 ≤ (0 : Int) := (by omega); have q175 : 0 < (l0_0.length : Int) := of_decide_eq_true (by first | (with_reducible assumption) | assumption); obtain ⟨ad175, A175_0, c175_0, e175, hx175_0, hl175_0, hi175_0⟩ := at_L1 HR0_0.out 0 p175 q175; cases e175; have qi175 : (0 < l0_0.length) = True := eq_true (by omega); (try rw [show ((0 : Int)).toNat = 0 from rfl] at hx175_0); (try rw [Addr.add_zero'] at hx175_0); replace hx175_0 := (HB.out.cell (World.block_lt_of_cell? w _ hx175_0)).trans hx175_0; have HR175_0 := Aside0.mk hi175_0; have HC175_0 := Aside0.mk hl175_0; clear hi175_0 hl175_0; replace p175 := eq_true p175; replace q175 := eq_true q175) | (go_at_call 59; (with_reducible refine (spec_l1In.calls a1 0 (wrap64 (((rd_L1 l0_0 0).length : Int) - 1)) false _ A10.out).mono ?_); rintro e w' ⟨rfl, ⟨nd, rfl⟩⟩))
          go_meet
          case rel => exact ⟨_, (true), (by first | rfl | (simp; done) | (simp [*]; done) | (simp [i64_w]; done)), H', ⟨by first | omega | exact Nat.le_refl _⟩, ⟨by (with_reducible repeat (first | refine blk_drewN ?_ _ | refine blk_drew ?_ | refine blk_alloc ?_ _)); exact BK172.out⟩, ⟨by (with_reducible repeat (first | refine blk_drewN ?_ _ | refine blk_drew ?_ | refine blk_alloc ?_ _)); exact BK173.out⟩, ⟨by repeat (first | (with_reducible first | exact HB.out | apply below_alloc | apply pw_below_drewN | apply below_drew1 | refine below_set ?_ GE172.out | refine below_set ?_ GE173.out) | exact HB.out)⟩⟩
      · rw [if_neg c9] at H
        exact absurd H (by simp)
    · replace c8 := Bool.eq_false_iff.mpr c8
      subst c8
      have H1 : (spec_AddToColumn.j0 a1 a2 k true l0_0 l0_1) = some (r1, r2, r3) := by rw [if_neg (show ¬ (false = true) by decide)] at H; exact H
      clear H
      have H := H1
      clear H1
      have H' := Aside0.mk H
      clear H
      have hnb21 := NB172_173.out
      have hnc21 := NB173_172.out
      have hcz22_0 : w6.cell? ⟨gb172, 0, none⟩ = some (.slice A0_0 l0_0.length c0_0) := (blk_cell BK172.out 0).trans rfl
      have hcz22_1 : w6.cell? ⟨gb172, 1, none⟩ = some (.slice A0_1 l0_1.length c0_1) := (blk_cell BK172.out 1).trans rfl
      have hfz22_0 := blk_frozen BK172.out 0
      have hfz22_1 := blk_frozen BK172.out 1
      go_wp2_with (first | ((with_reducible refine gate_callee (f := 63) rfl ?_); refine goesL_ (some 11) rfl rfl Try.func63 (by kernel_rfl) rfl #[.agg #[.slice A0_0 l0_0.length c0_0, .slice A0_1 l0_1.length c0_1]] rfl (by (try simp only [List.map_toArray, List.map_cons, List.map_nil]); first | done | rfl | (simp only [List.length_drop, List.length_take]; rfl)) ?_; (with_reducible refine (spec_gmGood.calls k _ _ l0_0 _ _ l0_1 false _ ?side1 ?side2 ?side3 ?side4 A7.out).mono ?_); (case side1 => repeat (first | exact (Kd.C_below HR0_0.out HB.out) | (with_reducible refine Kd.C_alloc ?_ _) | (with_reducible refine Kd.C_drewN ?_ _) | (with_reducible refine Kd.C_drew ?_))); (case side2 => exact HC0_0.out); (case side3 => repeat (first | exact (Kd.C_below HR0_1.out HB.out) | (with_reducible refine Kd.C_alloc ?_ _) | (with_reducible refine Kd.C_drewN ?_ _) | (with_reducible refine Kd.C_drew ?_))); (case side4 => exact HC0_1.out); rintro e w23 ⟨rfl, hb⟩; refine ⟨_, rfl, ?_⟩; have n0_ := Aside0.mk (blk_below (g := gb172) (o := .cells #[.slice A0_0 l0_0.length c0_0, .slice A0_1 l0_1.length c0_1] 33 (0, 0)) (by (with_reducible repeat (first | refine blk_drewN ?_ _ | refine blk_drew ?_ | refine blk_alloc ?_ _)); exact BK172.out) hb); have n1_ := Aside0.mk (blk_below (g := gb173) (o := .cells #[.slice none 0 0, .slice none 0 0] 33 (0, 0)) (by (with_reducible repeat (first | refine blk_drewN ?_ _ | refine blk_drew ?_ | refine blk_alloc ?_ _)); exact BK173.out) hb); have n2_ := Aside0.mk (below_step (by repeat (first | (with_reducible first | exact HB.out | apply below_alloc | apply pw_below_drewN | apply below_drew1 | refine below_set ?_ GE172.out | refine below_set ?_ GE173.out) | exact HB.out)) hb); clear BK172; clear BK173; clear HB; have BK172 := n0_; have BK173 := n1_; have HB := n2_; clear n0_ n1_ n2_; (try clear hb); (try clear hb2); (try clear hk); (try clear hi)))
      go_meet
      case rel => exact ⟨_, (true), (by first | rfl | (simp; done) | (simp [*]; done) | (simp [i64_w]; done)), H', ⟨by first | omega | exact Nat.le_refl _⟩, ⟨by (with_reducible repeat (first | refine blk_drewN ?_ _ | refine blk_drew ?_ | refine blk_alloc ?_ _)); exact BK172.out⟩, ⟨by (with_reducible repeat (first | refine blk_drewN ?_ _ | refine blk_drew ?_ | refine blk_alloc ?_ _)); exact BK173.out⟩, ⟨by repeat (first | (with_reducible first | exact HB.out | apply below_alloc | apply pw_below_drewN | apply below_drew1 | refine below_set ?_ GE172.out | refine below_set ?_ GE173.out) | exact HB.out)⟩⟩
  case rest =>
    clear HC4
    try clear c1
    try clear p1
    try clear q1
    try clear hx1
    try clear qi1
    try clear c2
    try clear p2
    try clear c3
    try clear c6
    try clear p6
    try clear c8
    try clear c9
    try clear c9b0
    try clear c9b1
    try clear c11
    try clear c13
    try clear c17
    try clear p17
    try clear q17
    try clear hx17
    try clear qi17
    try clear c21
    try clear hcz14_0
    try clear hcz14_1
    try clear hcz16_0
    try clear hcz16_1
    try clear hcz18_0
    try clear hcz18_1
    try clear hcz20_0
    try clear hcz20_1
    try clear hcz22_0
    try clear hcz22_1
    try clear hfz14_0
    try clear hfz14_1
    try clear hfz16_0
    try clear hfz16_1
    try clear hfz18_0
    try clear hfz18_1
    try clear hfz20_0
    try clear hfz20_1
    try clear hfz22_0
    try clear hfz22_1
    try clear hx175_0
    try clear p175
    try clear q175
    obtain ⟨kq, x28_3, rfl, HA, HJ3, BK172, BK173, HB⟩ := hcut
    cases kq with
    | zero => exact absurd HA.out (by simp [spec_AddToColumn.j0])
    | succ kj3 =>
      have H := HA.out
      clear HA
      simp only [spec_AddToColumn.j0] at H
      by_cases c24 : x28_3 = true
      · subst c24
        have H1 : (some (([] : List (List Int)), ([] : List (List Int)), false)) = some (r1, r2, r3) := by rw [if_pos rfl] at H; first | exact H | (rw [if_pos trivial] at H; rw [if_pos rfl]; exact H)
        clear H
        have H := H1
        clear H1
        simp only [Option.some.injEq, Prod.mk.injEq] at H
        obtain ⟨rfl, rfl, rfl⟩ := H
        have hnb25 := NB173_172.out
        have hnc25 := NB172_173.out
        have hcz26_0 : wc.cell? ⟨gb173, 0, none⟩ = some (.slice none 0 0) := (blk_cell BK173.out 0).trans rfl
        have hcz26_1 : wc.cell? ⟨gb173, 1, none⟩ = some (.slice none 0 0) := (blk_cell BK173.out 1).trans rfl
        have hfz26_0 := blk_frozen BK173.out 0
        have hfz26_1 := blk_frozen BK173.out 1
        go_wp2
        refine bodyPost_ret (results_ct rfl _ _ gb173 33 #[.slice none 0 0, .slice none 0 0] (0, 0) _ rfl (by (with_reducible repeat (first | refine blk_drewN ?_ _ | refine blk_drew ?_ | refine blk_alloc ?_ _)); refine blk_put (cs := #[.slice none 0 0, .slice none 0 0]) ?_ 1 _ rfl; (with_reducible repeat (first | refine blk_drewN ?_ _ | refine blk_drew ?_ | refine blk_alloc ?_ _)); refine blk_put (cs := #[.slice none 0 0, .slice none 0 0]) ?_ 0 _ rfl; (with_reducible repeat (first | refine blk_drewN ?_ _ | refine blk_drew ?_ | refine blk_alloc ?_ _)); exact BK173.out) Try.underlying33 rfl (by kernel_rfl)) rfl ?_
        exact ⟨_, _, by first | rfl | (simp [errW_none, errW_some] <;> rfl) | (simp [*, errW_none, errW_some] <;> rfl), by first | exact Kd.S_nil _ _ _ _ _ | exact Kd.N_nil _ _ _ _ _ | exact Kd.V_nil _ _ _ _ _ | exact Kd.Q_nil _ _ _ _ _ | exact Kd.R_nil _ _ _ _ _, by first | exact Kd.S_nil _ _ _ _ _ | exact Kd.N_nil _ _ _ _ _ | exact Kd.V_nil _ _ _ _ _ | exact Kd.Q_nil _ _ _ _ _ | exact Kd.R_nil _ _ _ _ _, by repeat (first | (with_reducible first | exact HB.out | apply below_alloc | apply pw_below_drewN | apply below_drew1 | refine below_set ?_ GE172.out | refine below_set ?_ GE173.out) | exact HB.out)⟩
      · replace c24 := Bool.eq_false_iff.mpr c24
        subst c24
        have H1 : ((spec_gmOwn.f kj3 l0_0).bind fun t178 => ((spec_gmOwn.f kj3 l0_1).bind fun t181 => ((spec_addGood.f kj3 a1 a2 t178 t181).bind fun t185 => (if t185 = true then (some (addS a1 a2 t178, t181, true)) else (some (([] : List (List Int)), ([] : List (List Int)), false)))))) = some (r1, r2, r3) := by rw [if_neg (show ¬ (false = true) by decide)] at H; exact H
        clear H
        have H := H1
        clear H1
        replace H := Option.bind_eq_some_iff.mp H
        obtain ⟨t178, A270, H⟩ := H
        replace H : ((spec_gmOwn.f kj3 l0_1).bind fun t181 => ((spec_addGood.f kj3 a1 a2 t178 t181).bind fun t185 => (if t185 = true then (some (addS a1 a2 t178, t181, true)) else (some (([] : List (List Int)), ([] : List (List Int)), false))))) = some (r1, r2, r3) := H
        have A27 := Aside0.mk A270
        clear A270
        replace H := Option.bind_eq_some_iff.mp H
        obtain ⟨t181, A280, H⟩ := H
        replace H : ((spec_addGood.f kj3 a1 a2 t178 t181).bind fun t185 => (if t185 = true then (some (addS a1 a2 t178, t181, true)) else (some (([] : List (List Int)), ([] : List (List Int)), false)))) = some (r1, r2, r3) := H
        have A28 := Aside0.mk A280
        clear A280
        replace H := Option.bind_eq_some_iff.mp H
        obtain ⟨t185, A290, H⟩ := H
        replace H : (if t185 = true then (some (addS a1 a2 t178, t181, true)) else (some (([] : List (List Int)), ([] : List (List Int)), false))) = some (r1, r2, r3) := H
        have A29 := Aside0.mk A290
        clear A290
        by_cases c30 : t185 = true
        · subst c30
          have H1 : (some (addS a1 a2 t178, t181, true)) = some (r1, r2, r3) := by rw [if_pos rfl] at H; first | exact H | (rw [if_pos trivial] at H; rw [if_pos rfl]; exact H)
          clear H
          have H := H1
          clear H1
          simp only [Option.some.injEq, Prod.mk.injEq] at H
          obtain ⟨rfl, rfl, rfl⟩ := H
          try go_wp2
          have n0_ := Aside0.mk (blk_drew BK172.out)
          have n1_ := Aside0.mk (blk_drew BK173.out)
          have n2_ := Aside0.mk (below_drew1 HB.out)
          clear BK172
          clear BK173
          clear HB
          have BK172 := n0_
          have BK173 := n1_
          have HB := n2_
          clear n0_ n1_ n2_
          refine start_ (n := 9) (S := fun w' => w'.cell? ⟨gb172, 0, none⟩ = some (.slice A0_0 l0_0.length c0_0) ∧ w'.cell? ⟨gb172, 1, none⟩ = some (.slice A0_1 l0_1.length c0_1)) (ds := []) #[false, false, false, false, false, false, false, false, false] (by kernel_rfl) rfl rfl ⟨(blk_cell BK172.out 0).trans rfl, (blk_cell BK172.out 1).trans rfl⟩ (fun hHeld => ?_); refine with_tabW spec_AddToColumn.tab3 spec_AddToColumn.bits3 (fun HT_ HW_ => ?_)
          generalize wc.drew = w31 at BK172 BK173 HB hHeld ⊢
          refine pure_ (i := 0) (N := some 30) (v := ?_) (a' := ?_) #[true, false, false, false, false, false, false, false, false] rfl rfl (any_of HT_.out (by kernel_rfl)) (fun _ _ _ h => h) (Or.inl ⟨by rfl, ?_⟩) ?_ ?_
          rotate_left
          · intro w'
            go_simp
            with_reducible rfl
          rotate_left
          · simp only [Act.put, List.setIfInBounds_toArray, List.set_cons_zero, List.set_cons_succ, i64_w, i32_w]
            rfl
          refine pure_ (i := 3) (N := some 33) (v := ?_) (a' := ?_) #[true, false, false, true, false, false, false, false, false] rfl rfl (any_of HT_.out (by kernel_rfl)) (fun _ _ _ h => h) (Or.inl ⟨by rfl, ?_⟩) ?_ ?_
          rotate_left
          · intro w'
            go_simp
            with_reducible rfl
          rotate_left
          · simp only [Act.put, List.setIfInBounds_toArray, List.set_cons_zero, List.set_cons_succ, i64_w, i32_w]
            rfl
          refine take_ (i := 1) (N := some 31) (v := ?_) (a' := ?_) #[true, true, false, true, false, false, false, false, false] rfl rfl (take_ofW HT_.out HW_.out (by kernel_rfl)) (fun _ _ _ h => h) (Or.inl ⟨by rfl, ?_⟩) hHeld ?_ ?_
          rotate_left
          · rintro w' ⟨s0, s1⟩
            go_simp
            with_reducible rfl
          rotate_left
          · simp only [Act.put, List.setIfInBounds_toArray, List.set_cons_zero, List.set_cons_succ, i64_w, i32_w]
            rfl
          refine take_ (i := 4) (N := some 34) (v := ?_) (a' := ?_) #[true, true, false, true, true, false, false, false, false] rfl rfl (take_ofW HT_.out HW_.out (by kernel_rfl)) (fun _ _ _ h => h) (Or.inl ⟨by rfl, ?_⟩) hHeld ?_ ?_
          rotate_left
          · rintro w' ⟨s0, s1⟩
            go_simp
            with_reducible rfl
          rotate_left
          · simp only [Act.put, List.setIfInBounds_toArray, List.set_cons_zero, List.set_cons_succ, i64_w, i32_w]
            rfl
          refine join_ (σ := Value × Value × Nat) 1 #[true, true, true, true, true, true, true, true, false] (fun s_ => [(32, s_.1), (35, s_.2.1), (8, .pointer (some ⟨s_.2.2, 0, none⟩)), (36, .agg #[s_.1, s_.2.1])]) (fun s_ w' => (w'.cell? ⟨gb172, 0, none⟩ = some (.slice A0_0 l0_0.length c0_0) ∧ w'.cell? ⟨gb172, 1, none⟩ = some (.slice A0_1 l0_1.length c0_1)) ∧ (Kd.S (Kd.slice 3 (Kd.int .i64)) 22 w' w.heap.size (fun k_ => some k_ ≠ (s_.2.1 : Value).ownBlock) s_.1 t178) ∧ (Kd.S (Kd.slice 3 (Kd.int .i64)) 22 w' w.heap.size (fun k_ => some k_ ≠ (s_.1 : Value).ownBlock) s_.2.1 t181) ∧ (w'.heap[gb172]? = some (.cells #[.slice A0_0 l0_0.length c0_0, .slice A0_1 l0_1.length c0_1] 33 (0, 0))) ∧ (w'.heap[gb173]? = some (.cells #[.slice none 0 0, .slice none 0 0] 33 (0, 0))) ∧ (w'.heap[s_.2.2]? = some (.cells #[.slice none 0 0, .slice none 0 0] 33 (0, 0))) ∧ (w.heap.size ≤ s_.2.2) ∧ (w.heap.size ≤ s_.2.2) ∧ (gb172 ≠ s_.2.2) ∧ (s_.2.2 ≠ gb172) ∧ (gb173 ≠ s_.2.2) ∧ (s_.2.2 ≠ gb173) ∧ (Below w.heap.size w w') ∧ RangesF w gb172 gb173 t178 t181 s_ w') ?_ ?_
          rotate_left
          · intro hCont
            refine two_ (i := 2) (j := 7) (Ni := some 32) (Nj := some 8) #[true, true, true, true, true, false, false, false, false] #[true, true, false, true, true, false, false, true, false] rfl rfl rfl rfl (two_of HT_.out (by kernel_rfl)) (by decide) (by decide) (fun K hK => ?_) (fun K hK => ?_)
            · skip
              refine goes_ Try.func67 (by kernel_rfl) rfl #[.slice A0_0 l0_0.length c0_0] (by rfl) rfl rfl (by (try simp only [List.map_toArray, List.map_cons, List.map_nil]); first | done | rfl | (simp only [List.length_drop, List.length_take]; rfl)) ?_
              with_reducible refine (spec_gmOwn.calls kj3 _ _ l0_0 t178 _ ?side1 ?side2 A27.out).mono ?_
              (case side1 => repeat (first | exact (Kd.C_below HR0_0.out HB.out) | (with_reducible refine Kd.C_alloc ?_ _) | (with_reducible refine Kd.C_drewN ?_ _) | (with_reducible refine Kd.C_drew ?_)))
              (case side2 => exact HC0_0.out)
              rintro e w32 ⟨v179, rfl, ho0, hb⟩
              obtain ⟨loA, hiA, q0_, q1_, q2_, q3_, q4_⟩ : ∃ lo hi : Nat, w.heap.size ≤ lo ∧ gb173 < lo ∧ (True) ∧ (True) ∧ OS w32 lo hi v179 _ := ⟨_, _, below_size HB.out, blk_lt BK173.out, trivial, trivial, OS.of ho0⟩
              have QA0 := Aside0.mk q0_
              have QA1 := Aside0.mk q1_
              have QA2 := Aside0.mk q2_
              have QA3 := Aside0.mk q3_
              have QA := Aside0.mk q4_
              clear q0_ q1_ q2_ q3_ q4_
              refine ⟨_, rfl, ?_⟩
              have n0_ := Aside0.mk (Kd.S_lower ho0 (below_size (by repeat (first | (with_reducible first | exact HB.out | apply below_alloc | apply pw_below_drewN | apply below_drew1 | refine below_set ?_ GE172.out | refine below_set ?_ GE173.out) | exact HB.out))))
              have n1_ := Aside0.mk (blk_below (g := gb172) (o := .cells #[.slice A0_0 l0_0.length c0_0, .slice A0_1 l0_1.length c0_1] 33 (0, 0)) (by (with_reducible repeat (first | refine blk_drewN ?_ _ | refine blk_drew ?_ | refine blk_alloc ?_ _)); exact BK172.out) hb)
              have n2_ := Aside0.mk (blk_below (g := gb173) (o := .cells #[.slice none 0 0, .slice none 0 0] 33 (0, 0)) (by (with_reducible repeat (first | refine blk_drewN ?_ _ | refine blk_drew ?_ | refine blk_alloc ?_ _)); exact BK173.out) hb)
              have n3_ := Aside0.mk (below_step (by repeat (first | (with_reducible first | exact HB.out | apply below_alloc | apply pw_below_drewN | apply below_drew1 | refine below_set ?_ GE172.out | refine below_set ?_ GE173.out) | exact HB.out)) hb)
              clear BK172
              clear BK173
              clear HB
              have HO180 := n0_
              have BK172 := n1_
              have BK173 := n2_
              have HB := n3_
              clear n0_ n1_ n2_ n3_
              (try clear hb)
              (try clear hb2)
              (try clear hk)
              (try clear hi)
              (try clear ho0)
              refine hK.out _ _ ⟨(blk_cell BK172.out 0).trans rfl, (blk_cell BK172.out 1).trans rfl⟩ (fun hHeld => ?_)
              clear hK K
              refine norm_ (a' := ?_) ?_ ?_
              rotate_left
              · show Act.put _ (some 32) _ = _
                simp only [Act.put, List.setIfInBounds_toArray, List.set_cons_zero, List.set_cons_succ, i64_w, i32_w]
                rfl
              refine two_ (i := 5) (j := 7) (Ni := some 35) (Nj := some 8) #[true, true, true, true, true, true, false, false, false] #[true, true, true, true, true, false, false, true, false] rfl rfl rfl rfl (two_of HT_.out (by kernel_rfl)) (by decide) (by decide) (fun K hK => ?_) (fun K hK => ?_)
              · skip
                refine goes_ Try.func67 (by kernel_rfl) rfl #[.slice A0_1 l0_1.length c0_1] (by rfl) rfl rfl (by (try simp only [List.map_toArray, List.map_cons, List.map_nil]); first | done | rfl | (simp only [List.length_drop, List.length_take]; rfl)) ?_
                with_reducible refine (spec_gmOwn.calls kj3 _ _ l0_1 t181 _ ?side1 ?side2 A28.out).mono ?_
                (case side1 => repeat (first | exact (Kd.C_below HR0_1.out HB.out) | (with_reducible refine Kd.C_alloc ?_ _) | (with_reducible refine Kd.C_drewN ?_ _) | (with_reducible refine Kd.C_drew ?_)))
                (case side2 => exact HC0_1.out)
                rintro e w33 ⟨v182, rfl, ho0, hb⟩
                obtain ⟨loB, hiB, q0_, q1_, q2_, q3_, q4_⟩ : ∃ lo hi : Nat, w.heap.size ≤ lo ∧ gb173 < lo ∧ (hiA ≤ lo) ∧ (True) ∧ OS w33 lo hi v182 _ := ⟨_, _, below_size HB.out, blk_lt BK173.out, QA.out.2, trivial, OS.of ho0⟩
                have QB0 := Aside0.mk q0_
                have QB1 := Aside0.mk q1_
                have QB2 := Aside0.mk q2_
                have QB3 := Aside0.mk q3_
                replace QA := Aside0.mk (OS.below QA.out hb)
                have QB := Aside0.mk q4_
                clear q0_ q1_ q2_ q3_ q4_
                refine ⟨_, rfl, ?_⟩
                have n0_ := Aside0.mk (Kd.S_elder' (by (with_reducible repeat (first | apply Kd.S_alloc | apply Kd.S_drewN | apply Kd.S_drew)); exact HO180.out) (Kd.S_base ho0) hb)
                have n1_ := Aside0.mk (Kd.S_lower (Kd.S_new' ho0 (Kd.S_lt (by (with_reducible repeat (first | apply Kd.S_alloc | apply Kd.S_drewN | apply Kd.S_drew)); exact HO180.out))) (below_size (by repeat (first | (with_reducible first | exact HB.out | apply below_alloc | apply pw_below_drewN | apply below_drew1 | refine below_set ?_ GE172.out | refine below_set ?_ GE173.out) | exact HB.out))))
                have n2_ := Aside0.mk (blk_below (g := gb172) (o := .cells #[.slice A0_0 l0_0.length c0_0, .slice A0_1 l0_1.length c0_1] 33 (0, 0)) (by (with_reducible repeat (first | refine blk_drewN ?_ _ | refine blk_drew ?_ | refine blk_alloc ?_ _)); exact BK172.out) hb)
                have n3_ := Aside0.mk (blk_below (g := gb173) (o := .cells #[.slice none 0 0, .slice none 0 0] 33 (0, 0)) (by (with_reducible repeat (first | refine blk_drewN ?_ _ | refine blk_drew ?_ | refine blk_alloc ?_ _)); exact BK173.out) hb)
                have n4_ := Aside0.mk (below_step (by repeat (first | (with_reducible first | exact HB.out | apply below_alloc | apply pw_below_drewN | apply below_drew1 | refine below_set ?_ GE172.out | refine below_set ?_ GE173.out) | exact HB.out)) hb)
                clear HO180
                clear BK172
                clear BK173
                clear HB
                have HO180 := n0_
                have HO183 := n1_
                have BK172 := n2_
                have BK173 := n3_
                have HB := n4_
                clear n0_ n1_ n2_ n3_ n4_
                (try clear hb)
                (try clear hb2)
                (try clear hk)
                (try clear hi)
                (try clear ho0)
                obtain ⟨Ao34, co34, eo34⟩ := Kd.S_slice HO183.out
                (first | subst eo34 | (injection eo34 with f1_ f2_ f3_; have f4_ := f1_.symm; have f5_ := f3_.symm; clear f1_ f2_ f3_; subst f4_; subst f5_))
                obtain ⟨Ao35, co35, eo35⟩ := Kd.S_slice HO180.out
                (first | subst eo35 | (injection eo35 with f1_ f2_ f3_; have f4_ := f1_.symm; have f5_ := f3_.symm; clear f1_ f2_ f3_; subst f4_; subst f5_))
                refine hK.out _ _ ⟨(blk_cell BK172.out 0).trans rfl, (blk_cell BK172.out 1).trans rfl⟩ (fun hHeld => ?_)
                clear hK K
                refine norm_ (a' := ?_) ?_ ?_
                rotate_left
                · show Act.put _ (some 35) _ = _
                  simp only [Act.put, List.setIfInBounds_toArray, List.set_cons_zero, List.set_cons_succ, i64_w, i32_w]
                  rfl
                refine pure_ (i := 6) (N := some 36) (v := ?_) (a' := ?_) #[true, true, true, true, true, true, true, false, false] rfl rfl (any_of HT_.out (by kernel_rfl)) (fun _ _ _ h => h) (Or.inl ⟨by rfl, ?_⟩) ?_ ?_
                rotate_left
                · intro w'
                  go_simp
                  with_reducible rfl
                rotate_left
                · simp only [Act.put, List.setIfInBounds_toArray, List.set_cons_zero, List.set_cons_succ, i64_w, i32_w]
                  rfl
                refine one_ (i := 7) (N := some 8) #[true, true, true, true, true, true, true, true, false] rfl rfl (one_of HT_.out (by kernel_rfl)) (by decide) (fun K hK => ?_)
                refine box_step ?hg (N := 8) ?hd (cs := #[.slice none 0 0, .slice none 0 0]) (t := 33) ?hr ?_; (case hd => rfl); (case hg => rfl); (case hr => first | (go_simp; done) | (go_simp; rfl))
                intro gb184 hg w36 hbox hb
                have QGA := Aside0.mk (show hiA ≤ gb184 by rw [hg]; exact QA.out.2)
                replace QA := Aside0.mk (OS.below QA.out hb)
                have QGB := Aside0.mk (show hiB ≤ gb184 by rw [hg]; exact QB.out.2)
                replace QB := Aside0.mk (OS.below QB.out hb)
                have n0_ := Aside0.mk (Kd.S_below (by (with_reducible repeat (first | apply Kd.S_alloc | apply Kd.S_drewN | apply Kd.S_drew)); exact HO180.out) hb)
                have n1_ := Aside0.mk (Kd.S_below (by (with_reducible repeat (first | apply Kd.S_alloc | apply Kd.S_drewN | apply Kd.S_drew)); exact HO183.out) hb)
                have n2_ := Aside0.mk (blk_below (g := gb172) (o := .cells #[.slice A0_0 l0_0.length c0_0, .slice A0_1 l0_1.length c0_1] 33 (0, 0)) (by (with_reducible repeat (first | refine blk_drewN ?_ _ | refine blk_drew ?_ | refine blk_alloc ?_ _)); exact BK172.out) hb)
                have n3_ := Aside0.mk (blk_below (g := gb173) (o := .cells #[.slice none 0 0, .slice none 0 0] 33 (0, 0)) (by (with_reducible repeat (first | refine blk_drewN ?_ _ | refine blk_drew ?_ | refine blk_alloc ?_ _)); exact BK173.out) hb)
                have n4_ := Aside0.mk (below_step (by repeat (first | (with_reducible first | exact HB.out | apply below_alloc | apply pw_below_drewN | apply below_drew1 | refine below_set ?_ GE172.out | refine below_set ?_ GE173.out) | exact HB.out)) hb)
                have n5_ := Aside0.mk (hbox)
                have n6_ := Aside0.mk ((by rw [hg]; exact (below_size (by repeat (first | (with_reducible first | exact HB.out | apply below_alloc | apply pw_below_drewN | apply below_drew1 | refine below_set ?_ GE172.out | refine below_set ?_ GE173.out) | exact HB.out))) : w.heap.size ≤ gb184))
                have n7_ := Aside0.mk ((by rw [hg]; exact (below_size (by repeat (first | (with_reducible first | exact HB.out | apply below_alloc | apply pw_below_drewN | apply below_drew1 | refine below_set ?_ GE172.out | refine below_set ?_ GE173.out) | exact HB.out))) : w.heap.size ≤ gb184))
                have n8_ := Aside0.mk ((by rw [hg]; exact Nat.ne_of_lt (blk_lt (g := gb172) (o := .cells #[.slice A0_0 l0_0.length c0_0, .slice A0_1 l0_1.length c0_1] 33 (0, 0)) (by (with_reducible repeat (first | refine blk_drewN ?_ _ | refine blk_drew ?_ | refine blk_alloc ?_ _)); exact BK172.out)) : gb172 ≠ gb184))
                have n9_ := Aside0.mk ((by rw [hg]; exact Nat.ne_of_gt (blk_lt (g := gb172) (o := .cells #[.slice A0_0 l0_0.length c0_0, .slice A0_1 l0_1.length c0_1] 33 (0, 0)) (by (with_reducible repeat (first | refine blk_drewN ?_ _ | refine blk_drew ?_ | refine blk_alloc ?_ _)); exact BK172.out)) : gb184 ≠ gb172))
                have n10_ := Aside0.mk ((by rw [hg]; exact Nat.ne_of_lt (blk_lt (g := gb173) (o := .cells #[.slice none 0 0, .slice none 0 0] 33 (0, 0)) (by (with_reducible repeat (first | refine blk_drewN ?_ _ | refine blk_drew ?_ | refine blk_alloc ?_ _)); exact BK173.out)) : gb173 ≠ gb184))
                have n11_ := Aside0.mk ((by rw [hg]; exact Nat.ne_of_gt (blk_lt (g := gb173) (o := .cells #[.slice none 0 0, .slice none 0 0] 33 (0, 0)) (by (with_reducible repeat (first | refine blk_drewN ?_ _ | refine blk_drew ?_ | refine blk_alloc ?_ _)); exact BK173.out)) : gb184 ≠ gb173))
                clear HO180
                clear HO183
                clear BK172
                clear BK173
                clear HB
                have HO180 := n0_
                have HO183 := n1_
                have BK172 := n2_
                have BK173 := n3_
                have HB := n4_
                have BK184 := n5_
                have GW184 := n6_
                have GE184 := n7_
                have NB172_184 := n8_
                have NB184_172 := n9_
                have NB173_184 := n10_
                have NB184_173 := n11_
                clear n0_ n1_ n2_ n3_ n4_ n5_ n6_ n7_ n8_ n9_ n10_ n11_
                clear hb hbox hg
                refine hK.out _ _ ⟨(blk_cell BK172.out 0).trans rfl, (blk_cell BK172.out 1).trans rfl⟩ (fun hHeld => ?_)
                clear hK K
                refine norm_ (a' := ?_) ?_ ?_
                rotate_left
                · show Act.put _ (some 8) _ = _
                  simp only [Act.put, List.setIfInBounds_toArray, List.set_cons_zero, List.set_cons_succ, i64_w, i32_w]
                  rfl
                exact norm_ (by simp only [putAll, Act.put, List.setIfInBounds_toArray, List.set_cons_zero, List.set_cons_succ]) (hCont (.slice Ao35 t178.length co35, .slice Ao34 t181.length co34, gb184) _ ⟨hHeld, (by (with_reducible repeat (first | apply Kd.S_alloc | apply Kd.S_drewN | apply Kd.S_drew)); exact Kd.S_mono HO180.out (fun _ hk => hk.2)), (by (with_reducible repeat (first | apply Kd.S_alloc | apply Kd.S_drewN | apply Kd.S_drew)); exact Kd.S_mono HO183.out (fun _ hk => hk.2)), (by (with_reducible repeat (first | refine blk_drewN ?_ _ | refine blk_drew ?_ | refine blk_alloc ?_ _)); exact BK172.out), (by (with_reducible repeat (first | refine blk_drewN ?_ _ | refine blk_drew ?_ | refine blk_alloc ?_ _)); exact BK173.out), (by (with_reducible repeat (first | refine blk_drewN ?_ _ | refine blk_drew ?_ | refine blk_alloc ?_ _)); exact BK184.out), GW184.out, GE184.out, NB172_184.out, NB184_172.out, NB173_184.out, NB184_173.out, (by repeat (first | (with_reducible first | exact HB.out | apply below_alloc | apply pw_below_drewN | apply below_drew1 | refine below_set ?_ GE172.out | refine below_set ?_ GE173.out | refine below_set ?_ GE184.out) | exact HB.out)), ⟨loA, hiA, loB, hiB, QA0.out, QB0.out, QA1.out, QB1.out, QB2.out, .inr QGA.out, .inr QGB.out, QA.out, QB.out⟩⟩)
              · skip
                refine box_step ?hg (N := 8) ?hd (cs := #[.slice none 0 0, .slice none 0 0]) (t := 33) ?hr ?_; (case hd => rfl); (case hg => rfl); (case hr => first | (go_simp; done) | (go_simp; rfl))
                intro gb184 hg w33 hbox hb
                have QGA := Aside0.mk (show hiA ≤ gb184 by rw [hg]; exact QA.out.2)
                replace QA := Aside0.mk (OS.below QA.out hb)
                have n0_ := Aside0.mk (Kd.S_below (by (with_reducible repeat (first | apply Kd.S_alloc | apply Kd.S_drewN | apply Kd.S_drew)); exact HO180.out) hb)
                have n1_ := Aside0.mk (blk_below (g := gb172) (o := .cells #[.slice A0_0 l0_0.length c0_0, .slice A0_1 l0_1.length c0_1] 33 (0, 0)) (by (with_reducible repeat (first | refine blk_drewN ?_ _ | refine blk_drew ?_ | refine blk_alloc ?_ _)); exact BK172.out) hb)
                have n2_ := Aside0.mk (blk_below (g := gb173) (o := .cells #[.slice none 0 0, .slice none 0 0] 33 (0, 0)) (by (with_reducible repeat (first | refine blk_drewN ?_ _ | refine blk_drew ?_ | refine blk_alloc ?_ _)); exact BK173.out) hb)
                have n3_ := Aside0.mk (below_step (by repeat (first | (with_reducible first | exact HB.out | apply below_alloc | apply pw_below_drewN | apply below_drew1 | refine below_set ?_ GE172.out | refine below_set ?_ GE173.out) | exact HB.out)) hb)
                have n4_ := Aside0.mk (hbox)
                have n5_ := Aside0.mk ((by rw [hg]; exact (below_size (by repeat (first | (with_reducible first | exact HB.out | apply below_alloc | apply pw_below_drewN | apply below_drew1 | refine below_set ?_ GE172.out | refine below_set ?_ GE173.out) | exact HB.out))) : w.heap.size ≤ gb184))
                have n6_ := Aside0.mk ((by rw [hg]; exact (below_size (by repeat (first | (with_reducible first | exact HB.out | apply below_alloc | apply pw_below_drewN | apply below_drew1 | refine below_set ?_ GE172.out | refine below_set ?_ GE173.out) | exact HB.out))) : w.heap.size ≤ gb184))
                have n7_ := Aside0.mk ((by rw [hg]; exact Nat.ne_of_lt (blk_lt (g := gb172) (o := .cells #[.slice A0_0 l0_0.length c0_0, .slice A0_1 l0_1.length c0_1] 33 (0, 0)) (by (with_reducible repeat (first | refine blk_drewN ?_ _ | refine blk_drew ?_ | refine blk_alloc ?_ _)); exact BK172.out)) : gb172 ≠ gb184))
                have n8_ := Aside0.mk ((by rw [hg]; exact Nat.ne_of_gt (blk_lt (g := gb172) (o := .cells #[.slice A0_0 l0_0.length c0_0, .slice A0_1 l0_1.length c0_1] 33 (0, 0)) (by (with_reducible repeat (first | refine blk_drewN ?_ _ | refine blk_drew ?_ | refine blk_alloc ?_ _)); exact BK172.out)) : gb184 ≠ gb172))
                have n9_ := Aside0.mk ((by rw [hg]; exact Nat.ne_of_lt (blk_lt (g := gb173) (o := .cells #[.slice none 0 0, .slice none 0 0] 33 (0, 0)) (by (with_reducible repeat (first | refine blk_drewN ?_ _ | refine blk_drew ?_ | refine blk_alloc ?_ _)); exact BK173.out)) : gb173 ≠ gb184))
                have n10_ := Aside0.mk ((by rw [hg]; exact Nat.ne_of_gt (blk_lt (g := gb173) (o := .cells #[.slice none 0 0, .slice none 0 0] 33 (0, 0)) (by (with_reducible repeat (first | refine blk_drewN ?_ _ | refine blk_drew ?_ | refine blk_alloc ?_ _)); exact BK173.out)) : gb184 ≠ gb173))
                clear HO180
                clear BK172
                clear BK173
                clear HB
                have HO180 := n0_
                have BK172 := n1_
                have BK173 := n2_
                have HB := n3_
                have BK184 := n4_
                have GW184 := n5_
                have GE184 := n6_
                have NB172_184 := n7_
                have NB184_172 := n8_
                have NB173_184 := n9_
                have NB184_173 := n10_
                clear n0_ n1_ n2_ n3_ n4_ n5_ n6_ n7_ n8_ n9_ n10_
                clear hb hbox hg
                refine hK.out _ _ ⟨(blk_cell BK172.out 0).trans rfl, (blk_cell BK172.out 1).trans rfl⟩ (fun hHeld => ?_)
                clear hK K
                refine norm_ (a' := ?_) ?_ ?_
                rotate_left
                · show Act.put _ (some 8) _ = _
                  simp only [Act.put, List.setIfInBounds_toArray, List.set_cons_zero, List.set_cons_succ, i64_w, i32_w]
                  rfl
                refine one_ (i := 5) (N := some 35) #[true, true, true, true, true, true, false, true, false] rfl rfl (one_of HT_.out (by kernel_rfl)) (by decide) (fun K hK => ?_)
                refine goes_ Try.func67 (by kernel_rfl) rfl #[.slice A0_1 l0_1.length c0_1] (by rfl) rfl rfl (by (try simp only [List.map_toArray, List.map_cons, List.map_nil]); first | done | rfl | (simp only [List.length_drop, List.length_take]; rfl)) ?_
                with_reducible refine (spec_gmOwn.calls kj3 _ _ l0_1 t181 _ ?side1 ?side2 A28.out).mono ?_
                (case side1 => repeat (first | exact (Kd.C_below HR0_1.out HB.out) | (with_reducible refine Kd.C_alloc ?_ _) | (with_reducible refine Kd.C_drewN ?_ _) | (with_reducible refine Kd.C_drew ?_)))
                (case side2 => exact HC0_1.out)
                rintro e w34 ⟨v182, rfl, ho0, hb⟩
                obtain ⟨loB, hiB, q0_, q1_, q2_, q3_, q4_⟩ : ∃ lo hi : Nat, w.heap.size ≤ lo ∧ gb173 < lo ∧ (hiA ≤ lo) ∧ (gb184 < lo) ∧ OS w34 lo hi v182 _ := ⟨_, _, below_size HB.out, blk_lt BK173.out, QA.out.2, blk_lt BK184.out, OS.of ho0⟩
                have QB0 := Aside0.mk q0_
                have QB1 := Aside0.mk q1_
                have QB2 := Aside0.mk q2_
                have QB3 := Aside0.mk q3_
                replace QA := Aside0.mk (OS.below QA.out hb)
                have QB := Aside0.mk q4_
                clear q0_ q1_ q2_ q3_ q4_
                refine ⟨_, rfl, ?_⟩
                have n0_ := Aside0.mk (Kd.S_elder' (by (with_reducible repeat (first | apply Kd.S_alloc | apply Kd.S_drewN | apply Kd.S_drew)); exact HO180.out) (Kd.S_base ho0) hb)
                have n1_ := Aside0.mk (Kd.S_lower (Kd.S_new' ho0 (Kd.S_lt (by (with_reducible repeat (first | apply Kd.S_alloc | apply Kd.S_drewN | apply Kd.S_drew)); exact HO180.out))) (below_size (by repeat (first | (with_reducible first | exact HB.out | apply below_alloc | apply pw_below_drewN | apply below_drew1 | refine below_set ?_ GE172.out | refine below_set ?_ GE173.out | refine below_set ?_ GE184.out) | exact HB.out))))
                have n2_ := Aside0.mk (blk_below (g := gb172) (o := .cells #[.slice A0_0 l0_0.length c0_0, .slice A0_1 l0_1.length c0_1] 33 (0, 0)) (by (with_reducible repeat (first | refine blk_drewN ?_ _ | refine blk_drew ?_ | refine blk_alloc ?_ _)); exact BK172.out) hb)
                have n3_ := Aside0.mk (blk_below (g := gb173) (o := .cells #[.slice none 0 0, .slice none 0 0] 33 (0, 0)) (by (with_reducible repeat (first | refine blk_drewN ?_ _ | refine blk_drew ?_ | refine blk_alloc ?_ _)); exact BK173.out) hb)
                have n4_ := Aside0.mk (blk_below (g := gb184) (o := .cells #[.slice none 0 0, .slice none 0 0] 33 (0, 0)) (by (with_reducible repeat (first | refine blk_drewN ?_ _ | refine blk_drew ?_ | refine blk_alloc ?_ _)); exact BK184.out) hb)
                have n5_ := Aside0.mk (below_step (by repeat (first | (with_reducible first | exact HB.out | apply below_alloc | apply pw_below_drewN | apply below_drew1 | refine below_set ?_ GE172.out | refine below_set ?_ GE173.out | refine below_set ?_ GE184.out) | exact HB.out)) hb)
                clear HO180
                clear BK172
                clear BK173
                clear BK184
                clear HB
                have HO180 := n0_
                have HO183 := n1_
                have BK172 := n2_
                have BK173 := n3_
                have BK184 := n4_
                have HB := n5_
                clear n0_ n1_ n2_ n3_ n4_ n5_
                (try clear hb)
                (try clear hb2)
                (try clear hk)
                (try clear hi)
                (try clear ho0)
                obtain ⟨Ao35, co35, eo35⟩ := Kd.S_slice HO183.out
                (first | subst eo35 | (injection eo35 with f1_ f2_ f3_; have f4_ := f1_.symm; have f5_ := f3_.symm; clear f1_ f2_ f3_; subst f4_; subst f5_))
                obtain ⟨Ao36, co36, eo36⟩ := Kd.S_slice HO180.out
                (first | subst eo36 | (injection eo36 with f1_ f2_ f3_; have f4_ := f1_.symm; have f5_ := f3_.symm; clear f1_ f2_ f3_; subst f4_; subst f5_))
                refine hK.out _ _ ⟨(blk_cell BK172.out 0).trans rfl, (blk_cell BK172.out 1).trans rfl⟩ (fun hHeld => ?_)
                clear hK K
                refine norm_ (a' := ?_) ?_ ?_
                rotate_left
                · show Act.put _ (some 35) _ = _
                  simp only [Act.put, List.setIfInBounds_toArray, List.set_cons_zero, List.set_cons_succ, i64_w, i32_w]
                  rfl
                refine pure_ (i := 6) (N := some 36) (v := ?_) (a' := ?_) #[true, true, true, true, true, true, true, true, false] rfl rfl (any_of HT_.out (by kernel_rfl)) (fun _ _ _ h => h) (Or.inl ⟨by rfl, ?_⟩) ?_ ?_
                rotate_left
                · intro w'
                  go_simp
                  with_reducible rfl
                rotate_left
                · simp only [Act.put, List.setIfInBounds_toArray, List.set_cons_zero, List.set_cons_succ, i64_w, i32_w]
                  rfl
                exact norm_ (by simp only [putAll, Act.put, List.setIfInBounds_toArray, List.set_cons_zero, List.set_cons_succ]) (hCont (.slice Ao36 t178.length co36, .slice Ao35 t181.length co35, gb184) _ ⟨hHeld, (by (with_reducible repeat (first | apply Kd.S_alloc | apply Kd.S_drewN | apply Kd.S_drew)); exact Kd.S_mono HO180.out (fun _ hk => hk.2)), (by (with_reducible repeat (first | apply Kd.S_alloc | apply Kd.S_drewN | apply Kd.S_drew)); exact Kd.S_mono HO183.out (fun _ hk => hk.2)), (by (with_reducible repeat (first | refine blk_drewN ?_ _ | refine blk_drew ?_ | refine blk_alloc ?_ _)); exact BK172.out), (by (with_reducible repeat (first | refine blk_drewN ?_ _ | refine blk_drew ?_ | refine blk_alloc ?_ _)); exact BK173.out), (by (with_reducible repeat (first | refine blk_drewN ?_ _ | refine blk_drew ?_ | refine blk_alloc ?_ _)); exact BK184.out), GW184.out, GE184.out, NB172_184.out, NB184_172.out, NB173_184.out, NB184_173.out, (by repeat (first | (with_reducible first | exact HB.out | apply below_alloc | apply pw_below_drewN | apply below_drew1 | refine below_set ?_ GE172.out | refine below_set ?_ GE173.out | refine below_set ?_ GE184.out) | exact HB.out)), ⟨loA, hiA, loB, hiB, QA0.out, QB0.out, QA1.out, QB1.out, QB2.out, .inr QGA.out, .inl QB3.out, QA.out, QB.out⟩⟩)
            · skip
              refine box_step ?hg (N := 8) ?hd (cs := #[.slice none 0 0, .slice none 0 0]) (t := 33) ?hr ?_; (case hd => rfl); (case hg => rfl); (case hr => first | (go_simp; done) | (go_simp; rfl))
              intro gb184 hg w32 hbox hb
              have n0_ := Aside0.mk (blk_below (g := gb172) (o := .cells #[.slice A0_0 l0_0.length c0_0, .slice A0_1 l0_1.length c0_1] 33 (0, 0)) (by (with_reducible repeat (first | refine blk_drewN ?_ _ | refine blk_drew ?_ | refine blk_alloc ?_ _)); exact BK172.out) hb)
              have n1_ := Aside0.mk (blk_below (g := gb173) (o := .cells #[.slice none 0 0, .slice none 0 0] 33 (0, 0)) (by (with_reducible repeat (first | refine blk_drewN ?_ _ | refine blk_drew ?_ | refine blk_alloc ?_ _)); exact BK173.out) hb)
              have n2_ := Aside0.mk (below_step (by repeat (first | (with_reducible first | exact HB.out | apply below_alloc | apply pw_below_drewN | apply below_drew1 | refine below_set ?_ GE172.out | refine below_set ?_ GE173.out) | exact HB.out)) hb)
              have n3_ := Aside0.mk (hbox)
              have n4_ := Aside0.mk ((by rw [hg]; exact (below_size (by repeat (first | (with_reducible first | exact HB.out | apply below_alloc | apply pw_below_drewN | apply below_drew1 | refine below_set ?_ GE172.out | refine below_set ?_ GE173.out) | exact HB.out))) : w.heap.size ≤ gb184))
              have n5_ := Aside0.mk ((by rw [hg]; exact (below_size (by repeat (first | (with_reducible first | exact HB.out | apply below_alloc | apply pw_below_drewN | apply below_drew1 | refine below_set ?_ GE172.out | refine below_set ?_ GE173.out) | exact HB.out))) : w.heap.size ≤ gb184))
              have n6_ := Aside0.mk ((by rw [hg]; exact Nat.ne_of_lt (blk_lt (g := gb172) (o := .cells #[.slice A0_0 l0_0.length c0_0, .slice A0_1 l0_1.length c0_1] 33 (0, 0)) (by (with_reducible repeat (first | refine blk_drewN ?_ _ | refine blk_drew ?_ | refine blk_alloc ?_ _)); exact BK172.out)) : gb172 ≠ gb184))
              have n7_ := Aside0.mk ((by rw [hg]; exact Nat.ne_of_gt (blk_lt (g := gb172) (o := .cells #[.slice A0_0 l0_0.length c0_0, .slice A0_1 l0_1.length c0_1] 33 (0, 0)) (by (with_reducible repeat (first | refine blk_drewN ?_ _ | refine blk_drew ?_ | refine blk_alloc ?_ _)); exact BK172.out)) : gb184 ≠ gb172))
              have n8_ := Aside0.mk ((by rw [hg]; exact Nat.ne_of_lt (blk_lt (g := gb173) (o := .cells #[.slice none 0 0, .slice none 0 0] 33 (0, 0)) (by (with_reducible repeat (first | refine blk_drewN ?_ _ | refine blk_drew ?_ | refine blk_alloc ?_ _)); exact BK173.out)) : gb173 ≠ gb184))
              have n9_ := Aside0.mk ((by rw [hg]; exact Nat.ne_of_gt (blk_lt (g := gb173) (o := .cells #[.slice none 0 0, .slice none 0 0] 33 (0, 0)) (by (with_reducible repeat (first | refine blk_drewN ?_ _ | refine blk_drew ?_ | refine blk_alloc ?_ _)); exact BK173.out)) : gb184 ≠ gb173))
              clear BK172
              clear BK173
              clear HB
              have BK172 := n0_
              have BK173 := n1_
              have HB := n2_
              have BK184 := n3_
              have GW184 := n4_
              have GE184 := n5_
              have NB172_184 := n6_
              have NB184_172 := n7_
              have NB173_184 := n8_
              have NB184_173 := n9_
              clear n0_ n1_ n2_ n3_ n4_ n5_ n6_ n7_ n8_ n9_
              clear hb hbox hg
              refine hK.out _ _ ⟨(blk_cell BK172.out 0).trans rfl, (blk_cell BK172.out 1).trans rfl⟩ (fun hHeld => ?_)
              clear hK K
              refine norm_ (a' := ?_) ?_ ?_
              rotate_left
              · show Act.put _ (some 8) _ = _
                simp only [Act.put, List.setIfInBounds_toArray, List.set_cons_zero, List.set_cons_succ, i64_w, i32_w]
                rfl
              refine one_ (i := 2) (N := some 32) #[true, true, true, true, true, false, false, true, false] rfl rfl (one_of HT_.out (by kernel_rfl)) (by decide) (fun K hK => ?_)
              refine goes_ Try.func67 (by kernel_rfl) rfl #[.slice A0_0 l0_0.length c0_0] (by rfl) rfl rfl (by (try simp only [List.map_toArray, List.map_cons, List.map_nil]); first | done | rfl | (simp only [List.length_drop, List.length_take]; rfl)) ?_
              with_reducible refine (spec_gmOwn.calls kj3 _ _ l0_0 t178 _ ?side1 ?side2 A27.out).mono ?_
              (case side1 => repeat (first | exact (Kd.C_below HR0_0.out HB.out) | (with_reducible refine Kd.C_alloc ?_ _) | (with_reducible refine Kd.C_drewN ?_ _) | (with_reducible refine Kd.C_drew ?_)))
              (case side2 => exact HC0_0.out)
              rintro e w33 ⟨v179, rfl, ho0, hb⟩
              obtain ⟨loA, hiA, q0_, q1_, q2_, q3_, q4_⟩ : ∃ lo hi : Nat, w.heap.size ≤ lo ∧ gb173 < lo ∧ (True) ∧ (gb184 < lo) ∧ OS w33 lo hi v179 _ := ⟨_, _, below_size HB.out, blk_lt BK173.out, trivial, blk_lt BK184.out, OS.of ho0⟩
              have QA0 := Aside0.mk q0_
              have QA1 := Aside0.mk q1_
              have QA2 := Aside0.mk q2_
              have QA3 := Aside0.mk q3_
              have QA := Aside0.mk q4_
              clear q0_ q1_ q2_ q3_ q4_
              refine ⟨_, rfl, ?_⟩
              have n0_ := Aside0.mk (Kd.S_lower ho0 (below_size (by repeat (first | (with_reducible first | exact HB.out | apply below_alloc | apply pw_below_drewN | apply below_drew1 | refine below_set ?_ GE172.out | refine below_set ?_ GE173.out | refine below_set ?_ GE184.out) | exact HB.out))))
              have n1_ := Aside0.mk (blk_below (g := gb172) (o := .cells #[.slice A0_0 l0_0.length c0_0, .slice A0_1 l0_1.length c0_1] 33 (0, 0)) (by (with_reducible repeat (first | refine blk_drewN ?_ _ | refine blk_drew ?_ | refine blk_alloc ?_ _)); exact BK172.out) hb)
              have n2_ := Aside0.mk (blk_below (g := gb173) (o := .cells #[.slice none 0 0, .slice none 0 0] 33 (0, 0)) (by (with_reducible repeat (first | refine blk_drewN ?_ _ | refine blk_drew ?_ | refine blk_alloc ?_ _)); exact BK173.out) hb)
              have n3_ := Aside0.mk (blk_below (g := gb184) (o := .cells #[.slice none 0 0, .slice none 0 0] 33 (0, 0)) (by (with_reducible repeat (first | refine blk_drewN ?_ _ | refine blk_drew ?_ | refine blk_alloc ?_ _)); exact BK184.out) hb)
              have n4_ := Aside0.mk (below_step (by repeat (first | (with_reducible first | exact HB.out | apply below_alloc | apply pw_below_drewN | apply below_drew1 | refine below_set ?_ GE172.out | refine below_set ?_ GE173.out | refine below_set ?_ GE184.out) | exact HB.out)) hb)
              clear BK172
              clear BK173
              clear BK184
              clear HB
              have HO180 := n0_
              have BK172 := n1_
              have BK173 := n2_
              have BK184 := n3_
              have HB := n4_
              clear n0_ n1_ n2_ n3_ n4_
              (try clear hb)
              (try clear hb2)
              (try clear hk)
              (try clear hi)
              (try clear ho0)
              refine hK.out _ _ ⟨(blk_cell BK172.out 0).trans rfl, (blk_cell BK172.out 1).trans rfl⟩ (fun hHeld => ?_)
              clear hK K
              refine norm_ (a' := ?_) ?_ ?_
              rotate_left
              · show Act.put _ (some 32) _ = _
                simp only [Act.put, List.setIfInBounds_toArray, List.set_cons_zero, List.set_cons_succ, i64_w, i32_w]
                rfl
              refine one_ (i := 5) (N := some 35) #[true, true, true, true, true, true, false, true, false] rfl rfl (one_of HT_.out (by kernel_rfl)) (by decide) (fun K hK => ?_)
              refine goes_ Try.func67 (by kernel_rfl) rfl #[.slice A0_1 l0_1.length c0_1] (by rfl) rfl rfl (by (try simp only [List.map_toArray, List.map_cons, List.map_nil]); first | done | rfl | (simp only [List.length_drop, List.length_take]; rfl)) ?_
              with_reducible refine (spec_gmOwn.calls kj3 _ _ l0_1 t181 _ ?side1 ?side2 A28.out).mono ?_
              (case side1 => repeat (first | exact (Kd.C_below HR0_1.out HB.out) | (with_reducible refine Kd.C_alloc ?_ _) | (with_reducible refine Kd.C_drewN ?_ _) | (with_reducible refine Kd.C_drew ?_)))
              (case side2 => exact HC0_1.out)
              rintro e w34 ⟨v182, rfl, ho0, hb⟩
              obtain ⟨loB, hiB, q0_, q1_, q2_, q3_, q4_⟩ : ∃ lo hi : Nat, w.heap.size ≤ lo ∧ gb173 < lo ∧ (hiA ≤ lo) ∧ (gb184 < lo) ∧ OS w34 lo hi v182 _ := ⟨_, _, below_size HB.out, blk_lt BK173.out, QA.out.2, blk_lt BK184.out, OS.of ho0⟩
              have QB0 := Aside0.mk q0_
              have QB1 := Aside0.mk q1_
              have QB2 := Aside0.mk q2_
              have QB3 := Aside0.mk q3_
              replace QA := Aside0.mk (OS.below QA.out hb)
              have QB := Aside0.mk q4_
              clear q0_ q1_ q2_ q3_ q4_
              refine ⟨_, rfl, ?_⟩
              have n0_ := Aside0.mk (Kd.S_elder' (by (with_reducible repeat (first | apply Kd.S_alloc | apply Kd.S_drewN | apply Kd.S_drew)); exact HO180.out) (Kd.S_base ho0) hb)
              have n1_ := Aside0.mk (Kd.S_lower (Kd.S_new' ho0 (Kd.S_lt (by (with_reducible repeat (first | apply Kd.S_alloc | apply Kd.S_drewN | apply Kd.S_drew)); exact HO180.out))) (below_size (by repeat (first | (with_reducible first | exact HB.out | apply below_alloc | apply pw_below_drewN | apply below_drew1 | refine below_set ?_ GE172.out | refine below_set ?_ GE173.out | refine below_set ?_ GE184.out) | exact HB.out))))
              have n2_ := Aside0.mk (blk_below (g := gb172) (o := .cells #[.slice A0_0 l0_0.length c0_0, .slice A0_1 l0_1.length c0_1] 33 (0, 0)) (by (with_reducible repeat (first | refine blk_drewN ?_ _ | refine blk_drew ?_ | refine blk_alloc ?_ _)); exact BK172.out) hb)
              have n3_ := Aside0.mk (blk_below (g := gb173) (o := .cells #[.slice none 0 0, .slice none 0 0] 33 (0, 0)) (by (with_reducible repeat (first | refine blk_drewN ?_ _ | refine blk_drew ?_ | refine blk_alloc ?_ _)); exact BK173.out) hb)
              have n4_ := Aside0.mk (blk_below (g := gb184) (o := .cells #[.slice none 0 0, .slice none 0 0] 33 (0, 0)) (by (with_reducible repeat (first | refine blk_drewN ?_ _ | refine blk_drew ?_ | refine blk_alloc ?_ _)); exact BK184.out) hb)
              have n5_ := Aside0.mk (below_step (by repeat (first | (with_reducible first | exact HB.out | apply below_alloc | apply pw_below_drewN | apply below_drew1 | refine below_set ?_ GE172.out | refine below_set ?_ GE173.out | refine below_set ?_ GE184.out) | exact HB.out)) hb)
              clear HO180
              clear BK172
              clear BK173
              clear BK184
              clear HB
              have HO180 := n0_
              have HO183 := n1_
              have BK172 := n2_
              have BK173 := n3_
              have BK184 := n4_
              have HB := n5_
              clear n0_ n1_ n2_ n3_ n4_ n5_
              (try clear hb)
              (try clear hb2)
              (try clear hk)
              (try clear hi)
              (try clear ho0)
              obtain ⟨Ao35, co35, eo35⟩ := Kd.S_slice HO183.out
              (first | subst eo35 | (injection eo35 with f1_ f2_ f3_; have f4_ := f1_.symm; have f5_ := f3_.symm; clear f1_ f2_ f3_; subst f4_; subst f5_))
              obtain ⟨Ao36, co36, eo36⟩ := Kd.S_slice HO180.out
              (first | subst eo36 | (injection eo36 with f1_ f2_ f3_; have f4_ := f1_.symm; have f5_ := f3_.symm; clear f1_ f2_ f3_; subst f4_; subst f5_))
              refine hK.out _ _ ⟨(blk_cell BK172.out 0).trans rfl, (blk_cell BK172.out 1).trans rfl⟩ (fun hHeld => ?_)
              clear hK K
              refine norm_ (a' := ?_) ?_ ?_
              rotate_left
              · show Act.put _ (some 35) _ = _
                simp only [Act.put, List.setIfInBounds_toArray, List.set_cons_zero, List.set_cons_succ, i64_w, i32_w]
                rfl
              refine pure_ (i := 6) (N := some 36) (v := ?_) (a' := ?_) #[true, true, true, true, true, true, true, true, false] rfl rfl (any_of HT_.out (by kernel_rfl)) (fun _ _ _ h => h) (Or.inl ⟨by rfl, ?_⟩) ?_ ?_
              rotate_left
              · intro w'
                go_simp
                with_reducible rfl
              rotate_left
              · simp only [Act.put, List.setIfInBounds_toArray, List.set_cons_zero, List.set_cons_succ, i64_w, i32_w]
                rfl
              exact norm_ (by simp only [putAll, Act.put, List.setIfInBounds_toArray, List.set_cons_zero, List.set_cons_succ]) (hCont (.slice Ao36 t178.length co36, .slice Ao35 t181.length co35, gb184) _ ⟨hHeld, (by (with_reducible repeat (first | apply Kd.S_alloc | apply Kd.S_drewN | apply Kd.S_drew)); exact Kd.S_mono HO180.out (fun _ hk => hk.2)), (by (with_reducible repeat (first | apply Kd.S_alloc | apply Kd.S_drewN | apply Kd.S_drew)); exact Kd.S_mono HO183.out (fun _ hk => hk.2)), (by (with_reducible repeat (first | refine blk_drewN ?_ _ | refine blk_drew ?_ | refine blk_alloc ?_ _)); exact BK172.out), (by (with_reducible repeat (first | refine blk_drewN ?_ _ | refine blk_drew ?_ | refine blk_alloc ?_ _)); exact BK173.out), (by (with_reducible repeat (first | refine blk_drewN ?_ _ | refine blk_drew ?_ | refine blk_alloc ?_ _)); exact BK184.out), GW184.out, GE184.out, NB172_184.out, NB184_172.out, NB173_184.out, NB184_173.out, (by repeat (first | (with_reducible first | exact HB.out | apply below_alloc | apply pw_below_drewN | apply below_drew1 | refine below_set ?_ GE172.out | refine below_set ?_ GE173.out | refine below_set ?_ GE184.out) | exact HB.out)), ⟨loA, hiA, loB, hiB, QA0.out, QB0.out, QA1.out, QB1.out, QB2.out, .inl QA3.out, .inl QB3.out, QA.out, QB.out⟩⟩)
          rintro ⟨v179, v182, gb184⟩ w37 ⟨hS_, h0_, h1_, h2_, h3_, h4_, h5_, h6_, h7_, h8_, h9_, h10_, h11_, hq_⟩
          have HQ := Aside0.mk hq_
          clear hq_
          have n0_ : Aside0 (Kd.S (Kd.slice 3 (Kd.int .i64)) 22 w37 w.heap.size (fun k_ => some k_ ≠ (v182 : Value).ownBlock) v179 t178) := ⟨h0_⟩
          have n1_ : Aside0 (Kd.S (Kd.slice 3 (Kd.int .i64)) 22 w37 w.heap.size (fun k_ => some k_ ≠ (v179 : Value).ownBlock) v182 t181) := ⟨h1_⟩
          have n2_ : Aside0 (w37.heap[gb172]? = some (.cells #[.slice A0_0 l0_0.length c0_0, .slice A0_1 l0_1.length c0_1] 33 (0, 0))) := ⟨h2_⟩
          have n3_ : Aside0 (w37.heap[gb173]? = some (.cells #[.slice none 0 0, .slice none 0 0] 33 (0, 0))) := ⟨h3_⟩
          have n4_ : Aside0 (w37.heap[gb184]? = some (.cells #[.slice none 0 0, .slice none 0 0] 33 (0, 0))) := ⟨h4_⟩
          have n5_ : Aside0 (w.heap.size ≤ gb184) := ⟨h5_⟩
          have n6_ : Aside0 (w.heap.size ≤ gb184) := ⟨h6_⟩
          have n7_ : Aside0 (gb172 ≠ gb184) := ⟨h7_⟩
          have n8_ : Aside0 (gb184 ≠ gb172) := ⟨h8_⟩
          have n9_ : Aside0 (gb173 ≠ gb184) := ⟨h9_⟩
          have n10_ : Aside0 (gb184 ≠ gb173) := ⟨h10_⟩
          have n11_ : Aside0 (Below w.heap.size w w37) := ⟨h11_⟩
          clear BK172
          clear BK173
          clear HB
          clear h0_ h1_ h2_ h3_ h4_ h5_ h6_ h7_ h8_ h9_ h10_ h11_
          have HO180 := n0_
          have HO183 := n1_
          have BK172 := n2_
          have BK173 := n3_
          have BK184 := n4_
          have GW184 := n5_
          have GE184 := n6_
          have NB172_184 := n7_
          have NB184_172 := n8_
          have NB173_184 := n9_
          have NB184_173 := n10_
          have HB := n11_
          clear n0_ n1_ n2_ n3_ n4_ n5_ n6_ n7_ n8_ n9_ n10_ n11_
          have hHeld : w37.cell? ⟨gb172, 0, none⟩ = some (.slice A0_0 l0_0.length c0_0) ∧ w37.cell? ⟨gb172, 1, none⟩ = some (.slice A0_1 l0_1.length c0_1) := hS_
          obtain ⟨Ao38, co38, eo38⟩ := Kd.S_slice HO183.out
          (first | subst eo38 | (injection eo38 with f1_ f2_ f3_; have f4_ := f1_.symm; have f5_ := f3_.symm; clear f1_ f2_ f3_; subst f4_; subst f5_))
          obtain ⟨Ao39, co39, eo39⟩ := Kd.S_slice HO180.out
          (first | subst eo39 | (injection eo39 with f1_ f2_ f3_; have f4_ := f1_.symm; have f5_ := f3_.symm; clear f1_ f2_ f3_; subst f4_; subst f5_))
          refine norm_ (a' := ?_) ?_ ?_
          rotate_left
          · simp only [putAll, Act.put, List.setIfInBounds_toArray, List.set_cons_zero, List.set_cons_succ]
            rfl
          refine one_ (i := 8) (N := none) #[true, true, true, true, true, true, true, true, true] rfl rfl (one_of HT_.out (by kernel_rfl)) (by decide) (fun K hK => ?_)
          have hs40 : w37.cell? ⟨gb184, 0, none⟩ = some (.slice none 0 0) := (blk_cell BK184.out 0).trans rfl
          have hfs40 := blk_frozen BK184.out 0
          have hns40_0 := NB172_184.out
          have hns40_1 := NB173_184.out
          have hms40_0 := NB184_172.out
          have hms40_1 := NB184_173.out
          have hs41 : w37.cell? ⟨gb184, 1, none⟩ = some (.slice none 0 0) := (blk_cell BK184.out 1).trans rfl
          have hfs41 := blk_frozen BK184.out 1
          have hns41_0 := NB172_184.out
          have hns41_1 := NB173_184.out
          have hms41_0 := NB184_172.out
          have hms41_1 := NB184_173.out
          refine skip_ (w1 := ?_) (by rfl) rfl ?_ ?_
          rotate_left
          · go_simp
            rfl
          refine hK.out _ _ ⟨((cell_far (p := ⟨gb184, _, none⟩) NB172_184.out _).trans (((cell_far (p := ⟨gb184, _, none⟩) NB172_184.out _).trans (hHeld.1)))), ((cell_far (p := ⟨gb184, _, none⟩) NB172_184.out _).trans (((cell_far (p := ⟨gb184, _, none⟩) NB172_184.out _).trans (hHeld.2))))⟩ (fun hHeld => ?_)
          clear hK K
          refine done_ (done_of HT_.out (by kernel_rfl)) ?_
          obtain ⟨loA, hiA, loB, hiB, z1, z2, z3, z4, z5, z6, z7, z8, z9⟩ := HQ.out
          have QA0 := Aside0.mk z1; have QB0 := Aside0.mk z2; have QA1 := Aside0.mk z3; have QB1 := Aside0.mk z4; have QAB := Aside0.mk z5; have QGA := Aside0.mk z6; have QGB := Aside0.mk z7; have QA := Aside0.mk z8; have QB := Aside0.mk z9
          clear z1 z2 z3 z4 z5 z6 z7 z8 z9 HQ HO180 HO183
          have hgood := A29.out
          unfold spec_addGood.f at hgood
          obtain ⟨hall, hgd⟩ : addAll a1 t178 = true ∧ spec_gmGood.f kj3 (addS a1 a2 t178) t181 = some true := by
            by_cases c_ : addAll a1 t178 = true
            · rw [if_pos c_] at hgood; exact ⟨c_, hgood⟩
            · rw [if_neg c_] at hgood; cases hgood
          have HALL := Aside0.mk hall
          have HGD := Aside0.mk hgd
          clear hgood hall hgd
          obtain ⟨wq, hwq⟩ : ∃ wq : World, wq = (w37.setCell ⟨gb184, 0, none⟩ (.slice Ao39 t178.length co39)).setCell ⟨gb184, 1, none⟩ (.slice Ao38 t181.length co38) := ⟨_, rfl⟩
          rw [← hwq]
          obtain ⟨hbk, hk, hk1⟩ := store_two BK184.out hwq
          replace HB := Aside0.mk (store_below HB.out hk1 GE184.out)
          replace QA := Aside0.mk (QA.out.kept hk (fun k h1_ h2_ => by have y1_ := h1_.1; have y2_ := h1_.2; have y3_ : k = gb184 := h2_; have y4_ : gb184 < loA ∨ hiA ≤ gb184 := QGA.out; omega))
          replace QB := Aside0.mk (QB.out.kept hk (fun k h1_ h2_ => by have y1_ := h1_.1; have y2_ := h1_.2; have y3_ : k = gb184 := h2_; have y4_ : gb184 < loB ∨ hiB ≤ gb184 := QGB.out; omega))
          replace BK173 := Aside0.mk (blk_kept BK173.out hk (fun h2_ => NB173_184.out h2_))
          replace BK184 := Aside0.mk hbk
          clear hk hk1 hbk hwq hHeld
          have hq1_0 : wq.cell? ⟨gb184, 0, none⟩ = some (.slice Ao39 t178.length co39) := (blk_cell BK184.out 0).trans rfl; have hqf1_0 := blk_frozen BK184.out 0; have hq1_1 : wq.cell? ⟨gb184, 1, none⟩ = some (.slice Ao38 t181.length co38) := (blk_cell BK184.out 1).trans rfl; have hqf1_1 := blk_frozen BK184.out 1
          go_wp2
          go_loopg [40] t178.length (fun gg v40 wr => ∃ i : Nat, v40 = .int .i64 i ∧ Aside0 (i + gg = t178.length) ∧ Aside0 (OS wr loA hiA (.slice Ao39 t178.length co39) (addS a1 a2 (t178.take i) ++ t178.drop i)) ∧ Aside0 (Below w.heap.size w wr) ∧ Aside0 (Kept wq wr (In loA hiA)))
          case atStart => exact ⟨0, rfl, ⟨by omega⟩, ⟨by simpa [addS] using QA.out⟩, HB, ⟨Kept.refl _ _⟩⟩
          case round =>
            clear QA hq1_0 hq1_1 hqf1_0 hqf1_1
            obtain ⟨i, rfl, HGi, HO, HBr, HK⟩ := hrel
            rename World => wo
            have BKo := Aside0.mk (blk_kept BK184.out HK.out (fun h2_ => by have y1_ := h2_.1; have y2_ := h2_.2; have y4_ : gb184 < loA ∨ hiA ≤ gb184 := QGA.out; omega))
            have hq2_0 : wo.cell? ⟨gb184, 0, none⟩ = some (.slice Ao39 t178.length co39) := (blk_cell BKo.out 0).trans rfl; have hqf2_0 := blk_frozen BKo.out 0; have hq2_1 : wo.cell? ⟨gb184, 1, none⟩ = some (.slice Ao38 t181.length co38) := (blk_cell BKo.out 1).trans rfl; have hqf2_1 := blk_frozen BKo.out 1
            by_cases hlt : i < t178.length
            · have hltz : (i : Int) < (t178.length : Int) := by omega
              have hlen : (addS a1 a2 (t178.take i) ++ t178.drop i).length = t178.length := by simp [addS]; omega
              have hbb : t178.length ≤ 9223372036854775807 := by have q := HO.out.reads.2.2.2.1; rw [hlen] at q; exact q
              obtain ⟨g, cap, eo, hg1, hg2, hg3⟩ := Kd.S_form HO.out.1 (by omega)
              rw [hlen] at eo
              cases eo
              obtain ⟨oki, cs, hcl, hM, hcc, hfr, hoki, hH⟩ := Kd.S_elem HO.out.1 [] (i : Int) (by omega) (by omega)
              rw [show ((i : Int)).toNat = i from rfl, addS_at a1 a2 t178 i hlt] at hM
              obtain ⟨ve, rfl, hR⟩ := hM
              have hcell := hcc 0 _ rfl
              rw [show (Kd.slice 3 (Kd.int .i64)).sz = 1 from rfl, show ((i : Int)).toNat = i from rfl, Nat.mul_one, Nat.add_zero] at hcell
              obtain ⟨Ae, ce, rfl⟩ := Kd.R_slice hR
              have hin := addS_in HALL.out i hlt
              have HH := Aside0.mk hH
              have HK1 := Aside0.mk hoki
              have HRR := Aside0.mk hR
              have HHI := Aside0.mk HO.out.2
              have HSET := Aside0.mk (addS_step a1 a2 t178 i hlt)
              clear hg3 hcl hcc hfr hH hR hoki hlen hg1 hg2
              generalize hy : t178.getD i [] = y at HRR HSET hcell HH hin
              clear hy
              have hby : y.length ≤ 9223372036854775807 := (Kd.R_reads' HRR.out).2.2.2.1
              obtain ⟨jn, hjn⟩ : ∃ jn : Nat, a1 = (jn : Int) := ⟨a1.toNat, by omega⟩
              have hj : jn < y.length := by omega
              have hjz : (jn : Int) < (y.length : Int) := by omega
              obtain ⟨go, co, eo, gb, gl, cl, hG⟩ := Kd.R_form HRR.out (by omega)
              cases eo
              have GB := Aside0.mk gb
              obtain ⟨hx, hf⟩ := Kd.R_celln 0 HRR.out (jn : Int) (by omega) (by omega)
              have HP := Aside0.mk (Kd.R_putg HRR.out (jn : Int) (wrap64 (rd y (jn : Int) + a2)))
              have HOK := Aside0.mk (HRR.out.1 go rfl)
              have HYJ := Aside0.mk (show addRow a1 a2 y = y.set ((jn : Int)).toNat (wrap64 (rd y (jn : Int) + a2)) by unfold addRow; rw [hjn])
              clear gb gl cl hG hin
              rw [show ((jn : Int)).toNat = jn from rfl] at hx hf
              replace hx : wo.cell? ⟨go, jn, none⟩ = some (.int .i64 (rd y (jn : Int))) := hx
              have HRn := Aside0.mk (show Kd.R (Kd.int .i64) 3 (wo.setCell ⟨go, jn, none⟩ (.int .i64 (wrap64 (rd y (jn : Int) + a2)))) loA oki (.slice (some ⟨go, 0, none⟩) y.length ce) (addRow a1 a2 y) from by rw [HYJ.out]; exact HP.out.1)
              have HKn := Aside0.mk (show Kept wo (wo.setCell ⟨go, jn, none⟩ (.int .i64 (wrap64 (rd y (jn : Int) + a2)))) oki from Kept.setCell (S := oki) (Kept.refl _ _) (p := ⟨go, jn, none⟩) (.inl HOK.out) _)
              have HBn := Aside0.mk (show Below w.heap.size w (wo.setCell ⟨go, jn, none⟩ (.int .i64 (wrap64 (rd y (jn : Int) + a2)))) from below_set HBr.out (by have z_ := GB.out; have z2_ := QA0.out; show w.heap.size ≤ go; omega))
              have HSn := Aside0.mk (show OS (wo.setCell ⟨go, jn, none⟩ (.int .i64 (wrap64 (rd y (jn : Int) + a2)))) loA hiA _ (addS a1 a2 (t178.take (i + 1)) ++ t178.drop (i + 1)) from by
                have h1 := Kd.H_kept HH.out HKn.out (fun _ _ hn => hn)
                have h2 := Kd.H_back h1 (x' := addRow a1 a2 y) (okp := oki) ⟨_, rfl, HRn.out⟩ (fun _ h => h)
                rw [show ((i : Int)).toNat = i from rfl, HSET.out] at h2
                exact ⟨h2, Nat.le_trans HHI.out HKn.out.1⟩)
              have HKk := Aside0.mk (show Kept wq (wo.setCell ⟨go, jn, none⟩ (.int .i64 (wrap64 (rd y (jn : Int) + a2)))) (In loA hiA) from Kept.then_ HK.out HKn.out (fun k h => .inl (HK1.out k h).1))
              clear HP HYJ HOK GB HH HK1 HSET HHI HRR
              rw [hjn]
              generalize rd y (jn : Int) = zj at hx HRn HKn HBn HSn HKk
              clear HRn HKn
              go_wp2
              rw [← hjn]
              go_roundg (t178.length - (i + 1))
              case measure => have := HGi.out; omega
              case rel => exact ⟨i + 1, by go_num, ⟨by omega⟩, HSn, HBn, HKk⟩
            · have hltz : ¬ (i : Int) < (t178.length : Int) := by omega
              have : i = t178.length := by have := HGi.out; omega
              subst this
              replace QB := Aside0.mk (QB.out.kept HK.out (fun k h1_ h2_ => by have y1_ := h1_.1; have y2_ := h2_.2; have y3_ := QAB.out; omega))
              replace BK173 := Aside0.mk (blk_kept BK173.out HK.out (fun h2_ => by have y1_ := h2_.1; have y2_ := QA1.out; omega))
              have HO2 := Aside0.mk (show OS wo loA hiA (.slice Ao39 t178.length co39) (addS a1 a2 t178) by have q := HO.out; rwa [List.take_of_length_le (Nat.le_refl _), List.drop_of_length_le (Nat.le_refl _), List.append_nil] at q)
              clear HO
              have HG := Aside0.mk (show Calls Try.prog 63 #[.agg #[.slice Ao39 t178.length co39, .slice Ao38 t181.length co38]] wo _ from by
                have r1_ := HO2.out.reads
                have r2_ := QB.out.reads
                have c_ := spec_gmGood.calls kj3 _ co39 (addS a1 a2 t178) _ co38 t181 true wo r1_.2.2 (by rw [← r1_.1]; exact r1_.2.1) r2_.2.2 (by exact r2_.2.1) HGD.out
                rw [addS_length] at c_
                exact c_)
              replace HB := HBr
              have hr_0 : wo.cell? ⟨gb173, 0, none⟩ = some (.slice none 0 0) := (blk_cell BK173.out 0).trans rfl
              have hr_1 : wo.cell? ⟨gb173, 1, none⟩ = some (.slice none 0 0) := (blk_cell BK173.out 1).trans rfl
              go_wp2_with (first
                | ((with_reducible refine gate_callee (f := 63) rfl ?_); refine goesL_ (some 56) rfl rfl Try.func63 (by kernel_rfl) rfl #[.agg #[.slice Ao39 t178.length co39, .slice Ao38 t181.length co38]] rfl (by (try simp only [List.map_toArray, List.map_cons, List.map_nil]); first | done | rfl) ?_; refine (HG.out).mono ?_; rintro e w90 ⟨rfl, hd_⟩; refine ⟨_, rfl, ?_⟩; have hb : Below wo.heap.size wo w90 := (by first | exact hd_ | (obtain ⟨m_, rfl⟩ := hd_; exact pw_below_drewN (Below.refl _ _) _)); clear hd_; replace HB := Aside0.mk (below_step HB.out hb); replace HO2 := Aside0.mk (OS.below HO2.out hb); replace QB := Aside0.mk (OS.below QB.out hb); replace BKo := Aside0.mk (blk_below BKo.out hb); replace BK173 := Aside0.mk (blk_below BK173.out hb); clear hb; have hq3_0 : w90.cell? ⟨gb184, 0, none⟩ = some (.slice Ao39 t178.length co39) := (blk_cell BKo.out 0).trans rfl; have hqf3_0 := blk_frozen BKo.out 0; have hq3_1 : w90.cell? ⟨gb184, 1, none⟩ = some (.slice Ao38 t181.length co38) := (blk_cell BKo.out 1).trans rfl; have hqf3_1 := blk_frozen BKo.out 1; have hq4_0 : w90.cell? ⟨gb173, 0, none⟩ = some (.slice none 0 0) := (blk_cell BK173.out 0).trans rfl; have hqf4_0 := blk_frozen BK173.out 0; have hq4_1 : w90.cell? ⟨gb173, 1, none⟩ = some (.slice none 0 0) := (blk_cell BK173.out 1).trans rfl; have hqf4_1 := blk_frozen BK173.out 1)
                | ((with_reducible refine gate_store (t := 33) (p := 6) (v := .tmp 59) rfl ?_); refine store_event (t := 33) (p := 6) (v := .tmp 59) (w1 := (w90.setCell ⟨gb173, 0, none⟩ (.slice Ao39 t178.length co39)).setCell ⟨gb173, 1, none⟩ (.slice Ao38 t181.length co38)) ?hg ?ho ?hn ?hr ?_; (case ho => rfl); (case hg => rfl); (case hn => rfl); (case hr => first | (go_simp; done) | (go_simp; rfl)); intro w91 hw_; obtain ⟨hbk, hk, hk1⟩ := store_two BK173.out hw_; clear hw_; replace HO2 := Aside0.mk (HO2.out.kept hk (fun k h1_ h2_ => by have y1_ := h1_.1; have y3_ : k = gb173 := h2_; have y4_ := QA1.out; omega)); replace QB := Aside0.mk (QB.out.kept hk (fun k h1_ h2_ => by have y1_ := h1_.1; have y3_ : k = gb173 := h2_; have y4_ := QB1.out; omega)); replace HB := Aside0.mk (store_below HB.out hk1 GE173.out); replace BK173 := Aside0.mk hbk; clear hk hk1 hbk))
              refine bodyPost_ret (results_ct rfl _ _ gb173 33 #[.slice Ao39 t178.length co39, .slice Ao38 t181.length co38] (0, 0) _ rfl BK173.out Try.underlying33 rfl (by kernel_rfl)) rfl ?_
              exact ⟨_, _, rfl, Kd.S_mono (Kd.S_lower HO2.out.1 QA0.out) (fun _ _ => trivial), Kd.S_mono (Kd.S_lower QB.out.1 QB0.out) (fun _ _ => trivial), HB.out⟩
        · replace c30 := Bool.eq_false_iff.mpr c30
          subst c30
          have H1 : (some (([] : List (List Int)), ([] : List (List Int)), false)) = some (r1, r2, r3) := by rw [if_neg (show ¬ (false = true) by decide)] at H; exact H
          clear H
          have H := H1
          clear H1
          simp only [Option.some.injEq, Prod.mk.injEq] at H
          obtain ⟨rfl, rfl, rfl⟩ := H
          try go_wp2
          have n0_ := Aside0.mk (blk_drew BK172.out)
          have n1_ := Aside0.mk (blk_drew BK173.out)
          have n2_ := Aside0.mk (below_drew1 HB.out)
          clear BK172
          clear BK173
          clear HB
          have BK172 := n0_
          have BK173 := n1_
          have HB := n2_
          clear n0_ n1_ n2_
          refine start_ (n := 9) (S := fun w' => w'.cell? ⟨gb172, 0, none⟩ = some (.slice A0_0 l0_0.length c0_0) ∧ w'.cell? ⟨gb172, 1, none⟩ = some (.slice A0_1 l0_1.length c0_1)) (ds := []) #[false, false, false, false, false, false, false, false, false] (by kernel_rfl) rfl rfl ⟨(blk_cell BK172.out 0).trans rfl, (blk_cell BK172.out 1).trans rfl⟩ (fun hHeld => ?_); refine with_tabW spec_AddToColumn.tab3 spec_AddToColumn.bits3 (fun HT_ HW_ => ?_)
          generalize wc.drew = w49 at BK172 BK173 HB hHeld ⊢
          refine pure_ (i := 0) (N := some 30) (v := ?_) (a' := ?_) #[true, false, false, false, false, false, false, false, false] rfl rfl (any_of HT_.out (by kernel_rfl)) (fun _ _ _ h => h) (Or.inl ⟨by rfl, ?_⟩) ?_ ?_
          rotate_left
          · intro w'
            go_simp
            with_reducible rfl
          rotate_left
          · simp only [Act.put, List.setIfInBounds_toArray, List.set_cons_zero, List.set_cons_succ, i64_w, i32_w]
            rfl
          refine pure_ (i := 3) (N := some 33) (v := ?_) (a' := ?_) #[true, false, false, true, false, false, false, false, false] rfl rfl (any_of HT_.out (by kernel_rfl)) (fun _ _ _ h => h) (Or.inl ⟨by rfl, ?_⟩) ?_ ?_
          rotate_left
          · intro w'
            go_simp
            with_reducible rfl
          rotate_left
          · simp only [Act.put, List.setIfInBounds_toArray, List.set_cons_zero, List.set_cons_succ, i64_w, i32_w]
            rfl
          refine take_ (i := 1) (N := some 31) (v := ?_) (a' := ?_) #[true, true, false, true, false, false, false, false, false] rfl rfl (take_ofW HT_.out HW_.out (by kernel_rfl)) (fun _ _ _ h => h) (Or.inl ⟨by rfl, ?_⟩) hHeld ?_ ?_
          rotate_left
          · rintro w' ⟨s0, s1⟩
            go_simp
            with_reducible rfl
          rotate_left
          · simp only [Act.put, List.setIfInBounds_toArray, List.set_cons_zero, List.set_cons_succ, i64_w, i32_w]
            rfl
          refine take_ (i := 4) (N := some 34) (v := ?_) (a' := ?_) #[true, true, false, true, true, false, false, false, false] rfl rfl (take_ofW HT_.out HW_.out (by kernel_rfl)) (fun _ _ _ h => h) (Or.inl ⟨by rfl, ?_⟩) hHeld ?_ ?_
          rotate_left
          · rintro w' ⟨s0, s1⟩
            go_simp
            with_reducible rfl
          rotate_left
          · simp only [Act.put, List.setIfInBounds_toArray, List.set_cons_zero, List.set_cons_succ, i64_w, i32_w]
            rfl
          refine join_ (σ := Value × Value × Nat) 1 #[true, true, true, true, true, true, true, true, false] (fun s_ => [(32, s_.1), (35, s_.2.1), (8, .pointer (some ⟨s_.2.2, 0, none⟩)), (36, .agg #[s_.1, s_.2.1])]) (fun s_ w' => (w'.cell? ⟨gb172, 0, none⟩ = some (.slice A0_0 l0_0.length c0_0) ∧ w'.cell? ⟨gb172, 1, none⟩ = some (.slice A0_1 l0_1.length c0_1)) ∧ (Kd.S (Kd.slice 3 (Kd.int .i64)) 22 w' w.heap.size (fun k_ => some k_ ≠ (s_.2.1 : Value).ownBlock) s_.1 t178) ∧ (Kd.S (Kd.slice 3 (Kd.int .i64)) 22 w' w.heap.size (fun k_ => some k_ ≠ (s_.1 : Value).ownBlock) s_.2.1 t181) ∧ (w'.heap[gb172]? = some (.cells #[.slice A0_0 l0_0.length c0_0, .slice A0_1 l0_1.length c0_1] 33 (0, 0))) ∧ (w'.heap[gb173]? = some (.cells #[.slice none 0 0, .slice none 0 0] 33 (0, 0))) ∧ (w'.heap[s_.2.2]? = some (.cells #[.slice none 0 0, .slice none 0 0] 33 (0, 0))) ∧ (w.heap.size ≤ s_.2.2) ∧ (w.heap.size ≤ s_.2.2) ∧ (gb172 ≠ s_.2.2) ∧ (s_.2.2 ≠ gb172) ∧ (gb173 ≠ s_.2.2) ∧ (s_.2.2 ≠ gb173) ∧ (Below w.heap.size w w') ∧ RangesF w gb172 gb173 t178 t181 s_ w') ?_ ?_
          rotate_left
          · intro hCont
            refine two_ (i := 2) (j := 7) (Ni := some 32) (Nj := some 8) #[true, true, true, true, true, false, false, false, false] #[true, true, false, true, true, false, false, true, false] rfl rfl rfl rfl (two_of HT_.out (by kernel_rfl)) (by decide) (by decide) (fun K hK => ?_) (fun K hK => ?_)
            · skip
              refine goes_ Try.func67 (by kernel_rfl) rfl #[.slice A0_0 l0_0.length c0_0] (by rfl) rfl rfl (by (try simp only [List.map_toArray, List.map_cons, List.map_nil]); first | done | rfl | (simp only [List.length_drop, List.length_take]; rfl)) ?_
              with_reducible refine (spec_gmOwn.calls kj3 _ _ l0_0 t178 _ ?side1 ?side2 A27.out).mono ?_
              (case side1 => repeat (first | exact (Kd.C_below HR0_0.out HB.out) | (with_reducible refine Kd.C_alloc ?_ _) | (with_reducible refine Kd.C_drewN ?_ _) | (with_reducible refine Kd.C_drew ?_)))
              (case side2 => exact HC0_0.out)
              rintro e w50 ⟨v179, rfl, ho0, hb⟩
              obtain ⟨loA, hiA, q0_, q1_, q2_, q3_, q4_⟩ : ∃ lo hi : Nat, w.heap.size ≤ lo ∧ gb173 < lo ∧ (True) ∧ (True) ∧ OS w50 lo hi v179 _ := ⟨_, _, below_size HB.out, blk_lt BK173.out, trivial, trivial, OS.of ho0⟩
              have QA0 := Aside0.mk q0_
              have QA1 := Aside0.mk q1_
              have QA2 := Aside0.mk q2_
              have QA3 := Aside0.mk q3_
              have QA := Aside0.mk q4_
              clear q0_ q1_ q2_ q3_ q4_
              refine ⟨_, rfl, ?_⟩
              have n0_ := Aside0.mk (Kd.S_lower ho0 (below_size (by repeat (first | (with_reducible first | exact HB.out | apply below_alloc | apply pw_below_drewN | apply below_drew1 | refine below_set ?_ GE172.out | refine below_set ?_ GE173.out) | exact HB.out))))
              have n1_ := Aside0.mk (blk_below (g := gb172) (o := .cells #[.slice A0_0 l0_0.length c0_0, .slice A0_1 l0_1.length c0_1] 33 (0, 0)) (by (with_reducible repeat (first | refine blk_drewN ?_ _ | refine blk_drew ?_ | refine blk_alloc ?_ _)); exact BK172.out) hb)
              have n2_ := Aside0.mk (blk_below (g := gb173) (o := .cells #[.slice none 0 0, .slice none 0 0] 33 (0, 0)) (by (with_reducible repeat (first | refine blk_drewN ?_ _ | refine blk_drew ?_ | refine blk_alloc ?_ _)); exact BK173.out) hb)
              have n3_ := Aside0.mk (below_step (by repeat (first | (with_reducible first | exact HB.out | apply below_alloc | apply pw_below_drewN | apply below_drew1 | refine below_set ?_ GE172.out | refine below_set ?_ GE173.out) | exact HB.out)) hb)
              clear BK172
              clear BK173
              clear HB
              have HO180 := n0_
              have BK172 := n1_
              have BK173 := n2_
              have HB := n3_
              clear n0_ n1_ n2_ n3_
              (try clear hb)
              (try clear hb2)
              (try clear hk)
              (try clear hi)
              (try clear ho0)
              refine hK.out _ _ ⟨(blk_cell BK172.out 0).trans rfl, (blk_cell BK172.out 1).trans rfl⟩ (fun hHeld => ?_)
              clear hK K
              refine norm_ (a' := ?_) ?_ ?_
              rotate_left
              · show Act.put _ (some 32) _ = _
                simp only [Act.put, List.setIfInBounds_toArray, List.set_cons_zero, List.set_cons_succ, i64_w, i32_w]
                rfl
              refine two_ (i := 5) (j := 7) (Ni := some 35) (Nj := some 8) #[true, true, true, true, true, true, false, false, false] #[true, true, true, true, true, false, false, true, false] rfl rfl rfl rfl (two_of HT_.out (by kernel_rfl)) (by decide) (by decide) (fun K hK => ?_) (fun K hK => ?_)
              · skip
                refine goes_ Try.func67 (by kernel_rfl) rfl #[.slice A0_1 l0_1.length c0_1] (by rfl) rfl rfl (by (try simp only [List.map_toArray, List.map_cons, List.map_nil]); first | done | rfl | (simp only [List.length_drop, List.length_take]; rfl)) ?_
                with_reducible refine (spec_gmOwn.calls kj3 _ _ l0_1 t181 _ ?side1 ?side2 A28.out).mono ?_
                (case side1 => repeat (first | exact (Kd.C_below HR0_1.out HB.out) | (with_reducible refine Kd.C_alloc ?_ _) | (with_reducible refine Kd.C_drewN ?_ _) | (with_reducible refine Kd.C_drew ?_)))
                (case side2 => exact HC0_1.out)
                rintro e w51 ⟨v182, rfl, ho0, hb⟩
                obtain ⟨loB, hiB, q0_, q1_, q2_, q3_, q4_⟩ : ∃ lo hi : Nat, w.heap.size ≤ lo ∧ gb173 < lo ∧ (hiA ≤ lo) ∧ (True) ∧ OS w51 lo hi v182 _ := ⟨_, _, below_size HB.out, blk_lt BK173.out, QA.out.2, trivial, OS.of ho0⟩
                have QB0 := Aside0.mk q0_
                have QB1 := Aside0.mk q1_
                have QB2 := Aside0.mk q2_
                have QB3 := Aside0.mk q3_
                replace QA := Aside0.mk (OS.below QA.out hb)
                have QB := Aside0.mk q4_
                clear q0_ q1_ q2_ q3_ q4_
                refine ⟨_, rfl, ?_⟩
                have n0_ := Aside0.mk (Kd.S_elder' (by (with_reducible repeat (first | apply Kd.S_alloc | apply Kd.S_drewN | apply Kd.S_drew)); exact HO180.out) (Kd.S_base ho0) hb)
                have n1_ := Aside0.mk (Kd.S_lower (Kd.S_new' ho0 (Kd.S_lt (by (with_reducible repeat (first | apply Kd.S_alloc | apply Kd.S_drewN | apply Kd.S_drew)); exact HO180.out))) (below_size (by repeat (first | (with_reducible first | exact HB.out | apply below_alloc | apply pw_below_drewN | apply below_drew1 | refine below_set ?_ GE172.out | refine below_set ?_ GE173.out) | exact HB.out))))
                have n2_ := Aside0.mk (blk_below (g := gb172) (o := .cells #[.slice A0_0 l0_0.length c0_0, .slice A0_1 l0_1.length c0_1] 33 (0, 0)) (by (with_reducible repeat (first | refine blk_drewN ?_ _ | refine blk_drew ?_ | refine blk_alloc ?_ _)); exact BK172.out) hb)
                have n3_ := Aside0.mk (blk_below (g := gb173) (o := .cells #[.slice none 0 0, .slice none 0 0] 33 (0, 0)) (by (with_reducible repeat (first | refine blk_drewN ?_ _ | refine blk_drew ?_ | refine blk_alloc ?_ _)); exact BK173.out) hb)
                have n4_ := Aside0.mk (below_step (by repeat (first | (with_reducible first | exact HB.out | apply below_alloc | apply pw_below_drewN | apply below_drew1 | refine below_set ?_ GE172.out | refine below_set ?_ GE173.out) | exact HB.out)) hb)
                clear HO180
                clear BK172
                clear BK173
                clear HB
                have HO180 := n0_
                have HO183 := n1_
                have BK172 := n2_
                have BK173 := n3_
                have HB := n4_
                clear n0_ n1_ n2_ n3_ n4_
                (try clear hb)
                (try clear hb2)
                (try clear hk)
                (try clear hi)
                (try clear ho0)
                obtain ⟨Ao52, co52, eo52⟩ := Kd.S_slice HO183.out
                (first | subst eo52 | (injection eo52 with f1_ f2_ f3_; have f4_ := f1_.symm; have f5_ := f3_.symm; clear f1_ f2_ f3_; subst f4_; subst f5_))
                obtain ⟨Ao53, co53, eo53⟩ := Kd.S_slice HO180.out
                (first | subst eo53 | (injection eo53 with f1_ f2_ f3_; have f4_ := f1_.symm; have f5_ := f3_.symm; clear f1_ f2_ f3_; subst f4_; subst f5_))
                refine hK.out _ _ ⟨(blk_cell BK172.out 0).trans rfl, (blk_cell BK172.out 1).trans rfl⟩ (fun hHeld => ?_)
                clear hK K
                refine norm_ (a' := ?_) ?_ ?_
                rotate_left
                · show Act.put _ (some 35) _ = _
                  simp only [Act.put, List.setIfInBounds_toArray, List.set_cons_zero, List.set_cons_succ, i64_w, i32_w]
                  rfl
                refine pure_ (i := 6) (N := some 36) (v := ?_) (a' := ?_) #[true, true, true, true, true, true, true, false, false] rfl rfl (any_of HT_.out (by kernel_rfl)) (fun _ _ _ h => h) (Or.inl ⟨by rfl, ?_⟩) ?_ ?_
                rotate_left
                · intro w'
                  go_simp
                  with_reducible rfl
                rotate_left
                · simp only [Act.put, List.setIfInBounds_toArray, List.set_cons_zero, List.set_cons_succ, i64_w, i32_w]
                  rfl
                refine one_ (i := 7) (N := some 8) #[true, true, true, true, true, true, true, true, false] rfl rfl (one_of HT_.out (by kernel_rfl)) (by decide) (fun K hK => ?_)
                refine box_step ?hg (N := 8) ?hd (cs := #[.slice none 0 0, .slice none 0 0]) (t := 33) ?hr ?_; (case hd => rfl); (case hg => rfl); (case hr => first | (go_simp; done) | (go_simp; rfl))
                intro gb184 hg w54 hbox hb
                have QGA := Aside0.mk (show hiA ≤ gb184 by rw [hg]; exact QA.out.2)
                replace QA := Aside0.mk (OS.below QA.out hb)
                have QGB := Aside0.mk (show hiB ≤ gb184 by rw [hg]; exact QB.out.2)
                replace QB := Aside0.mk (OS.below QB.out hb)
                have n0_ := Aside0.mk (Kd.S_below (by (with_reducible repeat (first | apply Kd.S_alloc | apply Kd.S_drewN | apply Kd.S_drew)); exact HO180.out) hb)
                have n1_ := Aside0.mk (Kd.S_below (by (with_reducible repeat (first | apply Kd.S_alloc | apply Kd.S_drewN | apply Kd.S_drew)); exact HO183.out) hb)
                have n2_ := Aside0.mk (blk_below (g := gb172) (o := .cells #[.slice A0_0 l0_0.length c0_0, .slice A0_1 l0_1.length c0_1] 33 (0, 0)) (by (with_reducible repeat (first | refine blk_drewN ?_ _ | refine blk_drew ?_ | refine blk_alloc ?_ _)); exact BK172.out) hb)
                have n3_ := Aside0.mk (blk_below (g := gb173) (o := .cells #[.slice none 0 0, .slice none 0 0] 33 (0, 0)) (by (with_reducible repeat (first | refine blk_drewN ?_ _ | refine blk_drew ?_ | refine blk_alloc ?_ _)); exact BK173.out) hb)
                have n4_ := Aside0.mk (below_step (by repeat (first | (with_reducible first | exact HB.out | apply below_alloc | apply pw_below_drewN | apply below_drew1 | refine below_set ?_ GE172.out | refine below_set ?_ GE173.out) | exact HB.out)) hb)
                have n5_ := Aside0.mk (hbox)
                have n6_ := Aside0.mk ((by rw [hg]; exact (below_size (by repeat (first | (with_reducible first | exact HB.out | apply below_alloc | apply pw_below_drewN | apply below_drew1 | refine below_set ?_ GE172.out | refine below_set ?_ GE173.out) | exact HB.out))) : w.heap.size ≤ gb184))
                have n7_ := Aside0.mk ((by rw [hg]; exact (below_size (by repeat (first | (with_reducible first | exact HB.out | apply below_alloc | apply pw_below_drewN | apply below_drew1 | refine below_set ?_ GE172.out | refine below_set ?_ GE173.out) | exact HB.out))) : w.heap.size ≤ gb184))
                have n8_ := Aside0.mk ((by rw [hg]; exact Nat.ne_of_lt (blk_lt (g := gb172) (o := .cells #[.slice A0_0 l0_0.length c0_0, .slice A0_1 l0_1.length c0_1] 33 (0, 0)) (by (with_reducible repeat (first | refine blk_drewN ?_ _ | refine blk_drew ?_ | refine blk_alloc ?_ _)); exact BK172.out)) : gb172 ≠ gb184))
                have n9_ := Aside0.mk ((by rw [hg]; exact Nat.ne_of_gt (blk_lt (g := gb172) (o := .cells #[.slice A0_0 l0_0.length c0_0, .slice A0_1 l0_1.length c0_1] 33 (0, 0)) (by (with_reducible repeat (first | refine blk_drewN ?_ _ | refine blk_drew ?_ | refine blk_alloc ?_ _)); exact BK172.out)) : gb184 ≠ gb172))
                have n10_ := Aside0.mk ((by rw [hg]; exact Nat.ne_of_lt (blk_lt (g := gb173) (o := .cells #[.slice none 0 0, .slice none 0 0] 33 (0, 0)) (by (with_reducible repeat (first | refine blk_drewN ?_ _ | refine blk_drew ?_ | refine blk_alloc ?_ _)); exact BK173.out)) : gb173 ≠ gb184))
                have n11_ := Aside0.mk ((by rw [hg]; exact Nat.ne_of_gt (blk_lt (g := gb173) (o := .cells #[.slice none 0 0, .slice none 0 0] 33 (0, 0)) (by (with_reducible repeat (first | refine blk_drewN ?_ _ | refine blk_drew ?_ | refine blk_alloc ?_ _)); exact BK173.out)) : gb184 ≠ gb173))
                clear HO180
                clear HO183
                clear BK172
                clear BK173
                clear HB
                have HO180 := n0_
                have HO183 := n1_
                have BK172 := n2_
                have BK173 := n3_
                have HB := n4_
                have BK184 := n5_
                have GW184 := n6_
                have GE184 := n7_
                have NB172_184 := n8_
                have NB184_172 := n9_
                have NB173_184 := n10_
                have NB184_173 := n11_
                clear n0_ n1_ n2_ n3_ n4_ n5_ n6_ n7_ n8_ n9_ n10_ n11_
                clear hb hbox hg
                refine hK.out _ _ ⟨(blk_cell BK172.out 0).trans rfl, (blk_cell BK172.out 1).trans rfl⟩ (fun hHeld => ?_)
                clear hK K
                refine norm_ (a' := ?_) ?_ ?_
                rotate_left
                · show Act.put _ (some 8) _ = _
                  simp only [Act.put, List.setIfInBounds_toArray, List.set_cons_zero, List.set_cons_succ, i64_w, i32_w]
                  rfl
                exact norm_ (by simp only [putAll, Act.put, List.setIfInBounds_toArray, List.set_cons_zero, List.set_cons_succ]) (hCont (.slice Ao53 t178.length co53, .slice Ao52 t181.length co52, gb184) _ ⟨hHeld, (by (with_reducible repeat (first | apply Kd.S_alloc | apply Kd.S_drewN | apply Kd.S_drew)); exact Kd.S_mono HO180.out (fun _ hk => hk.2)), (by (with_reducible repeat (first | apply Kd.S_alloc | apply Kd.S_drewN | apply Kd.S_drew)); exact Kd.S_mono HO183.out (fun _ hk => hk.2)), (by (with_reducible repeat (first | refine blk_drewN ?_ _ | refine blk_drew ?_ | refine blk_alloc ?_ _)); exact BK172.out), (by (with_reducible repeat (first | refine blk_drewN ?_ _ | refine blk_drew ?_ | refine blk_alloc ?_ _)); exact BK173.out), (by (with_reducible repeat (first | refine blk_drewN ?_ _ | refine blk_drew ?_ | refine blk_alloc ?_ _)); exact BK184.out), GW184.out, GE184.out, NB172_184.out, NB184_172.out, NB173_184.out, NB184_173.out, (by repeat (first | (with_reducible first | exact HB.out | apply below_alloc | apply pw_below_drewN | apply below_drew1 | refine below_set ?_ GE172.out | refine below_set ?_ GE173.out | refine below_set ?_ GE184.out) | exact HB.out)), ⟨loA, hiA, loB, hiB, QA0.out, QB0.out, QA1.out, QB1.out, QB2.out, .inr QGA.out, .inr QGB.out, QA.out, QB.out⟩⟩)
              · skip
                refine box_step ?hg (N := 8) ?hd (cs := #[.slice none 0 0, .slice none 0 0]) (t := 33) ?hr ?_; (case hd => rfl); (case hg => rfl); (case hr => first | (go_simp; done) | (go_simp; rfl))
                intro gb184 hg w51 hbox hb
                have QGA := Aside0.mk (show hiA ≤ gb184 by rw [hg]; exact QA.out.2)
                replace QA := Aside0.mk (OS.below QA.out hb)
                have n0_ := Aside0.mk (Kd.S_below (by (with_reducible repeat (first | apply Kd.S_alloc | apply Kd.S_drewN | apply Kd.S_drew)); exact HO180.out) hb)
                have n1_ := Aside0.mk (blk_below (g := gb172) (o := .cells #[.slice A0_0 l0_0.length c0_0, .slice A0_1 l0_1.length c0_1] 33 (0, 0)) (by (with_reducible repeat (first | refine blk_drewN ?_ _ | refine blk_drew ?_ | refine blk_alloc ?_ _)); exact BK172.out) hb)
                have n2_ := Aside0.mk (blk_below (g := gb173) (o := .cells #[.slice none 0 0, .slice none 0 0] 33 (0, 0)) (by (with_reducible repeat (first | refine blk_drewN ?_ _ | refine blk_drew ?_ | refine blk_alloc ?_ _)); exact BK173.out) hb)
                have n3_ := Aside0.mk (below_step (by repeat (first | (with_reducible first | exact HB.out | apply below_alloc | apply pw_below_drewN | apply below_drew1 | refine below_set ?_ GE172.out | refine below_set ?_ GE173.out) | exact HB.out)) hb)
                have n4_ := Aside0.mk (hbox)
                have n5_ := Aside0.mk ((by rw [hg]; exact (below_size (by repeat (first | (with_reducible first | exact HB.out | apply below_alloc | apply pw_below_drewN | apply below_drew1 | refine below_set ?_ GE172.out | refine below_set ?_ GE173.out) | exact HB.out))) : w.heap.size ≤ gb184))
                have n6_ := Aside0.mk ((by rw [hg]; exact (below_size (by repeat (first | (with_reducible first | exact HB.out | apply below_alloc | apply pw_below_drewN | apply below_drew1 | refine below_set ?_ GE172.out | refine below_set ?_ GE173.out) | exact HB.out))) : w.heap.size ≤ gb184))
                have n7_ := Aside0.mk ((by rw [hg]; exact Nat.ne_of_lt (blk_lt (g := gb172) (o := .cells #[.slice A0_0 l0_0.length c0_0, .slice A0_1 l0_1.length c0_1] 33 (0, 0)) (by (with_reducible repeat (first | refine blk_drewN ?_ _ | refine blk_drew ?_ | refine blk_alloc ?_ _)); exact BK172.out)) : gb172 ≠ gb184))
                have n8_ := Aside0.mk ((by rw [hg]; exact Nat.ne_of_gt (blk_lt (g := gb172) (o := .cells #[.slice A0_0 l0_0.length c0_0, .slice A0_1 l0_1.length c0_1] 33 (0, 0)) (by (with_reducible repeat (first | refine blk_drewN ?_ _ | refine blk_drew ?_ | refine blk_alloc ?_ _)); exact BK172.out)) : gb184 ≠ gb172))
                have n9_ := Aside0.mk ((by rw [hg]; exact Nat.ne_of_lt (blk_lt (g := gb173) (o := .cells #[.slice none 0 0, .slice none 0 0] 33 (0, 0)) (by (with_reducible repeat (first | refine blk_drewN ?_ _ | refine blk_drew ?_ | refine blk_alloc ?_ _)); exact BK173.out)) : gb173 ≠ gb184))
                have n10_ := Aside0.mk ((by rw [hg]; exact Nat.ne_of_gt (blk_lt (g := gb173) (o := .cells #[.slice none 0 0, .slice none 0 0] 33 (0, 0)) (by (with_reducible repeat (first | refine blk_drewN ?_ _ | refine blk_drew ?_ | refine blk_alloc ?_ _)); exact BK173.out)) : gb184 ≠ gb173))
                clear HO180
                clear BK172
                clear BK173
                clear HB
                have HO180 := n0_
                have BK172 := n1_
                have BK173 := n2_
                have HB := n3_
                have BK184 := n4_
                have GW184 := n5_
                have GE184 := n6_
                have NB172_184 := n7_
                have NB184_172 := n8_
                have NB173_184 := n9_
                have NB184_173 := n10_
                clear n0_ n1_ n2_ n3_ n4_ n5_ n6_ n7_ n8_ n9_ n10_
                clear hb hbox hg
                refine hK.out _ _ ⟨(blk_cell BK172.out 0).trans rfl, (blk_cell BK172.out 1).trans rfl⟩ (fun hHeld => ?_)
                clear hK K
                refine norm_ (a' := ?_) ?_ ?_
                rotate_left
                · show Act.put _ (some 8) _ = _
                  simp only [Act.put, List.setIfInBounds_toArray, List.set_cons_zero, List.set_cons_succ, i64_w, i32_w]
                  rfl
                refine one_ (i := 5) (N := some 35) #[true, true, true, true, true, true, false, true, false] rfl rfl (one_of HT_.out (by kernel_rfl)) (by decide) (fun K hK => ?_)
                refine goes_ Try.func67 (by kernel_rfl) rfl #[.slice A0_1 l0_1.length c0_1] (by rfl) rfl rfl (by (try simp only [List.map_toArray, List.map_cons, List.map_nil]); first | done | rfl | (simp only [List.length_drop, List.length_take]; rfl)) ?_
                with_reducible refine (spec_gmOwn.calls kj3 _ _ l0_1 t181 _ ?side1 ?side2 A28.out).mono ?_
                (case side1 => repeat (first | exact (Kd.C_below HR0_1.out HB.out) | (with_reducible refine Kd.C_alloc ?_ _) | (with_reducible refine Kd.C_drewN ?_ _) | (with_reducible refine Kd.C_drew ?_)))
                (case side2 => exact HC0_1.out)
                rintro e w52 ⟨v182, rfl, ho0, hb⟩
                obtain ⟨loB, hiB, q0_, q1_, q2_, q3_, q4_⟩ : ∃ lo hi : Nat, w.heap.size ≤ lo ∧ gb173 < lo ∧ (hiA ≤ lo) ∧ (gb184 < lo) ∧ OS w52 lo hi v182 _ := ⟨_, _, below_size HB.out, blk_lt BK173.out, QA.out.2, blk_lt BK184.out, OS.of ho0⟩
                have QB0 := Aside0.mk q0_
                have QB1 := Aside0.mk q1_
                have QB2 := Aside0.mk q2_
                have QB3 := Aside0.mk q3_
                replace QA := Aside0.mk (OS.below QA.out hb)
                have QB := Aside0.mk q4_
                clear q0_ q1_ q2_ q3_ q4_
                refine ⟨_, rfl, ?_⟩
                have n0_ := Aside0.mk (Kd.S_elder' (by (with_reducible repeat (first | apply Kd.S_alloc | apply Kd.S_drewN | apply Kd.S_drew)); exact HO180.out) (Kd.S_base ho0) hb)
                have n1_ := Aside0.mk (Kd.S_lower (Kd.S_new' ho0 (Kd.S_lt (by (with_reducible repeat (first | apply Kd.S_alloc | apply Kd.S_drewN | apply Kd.S_drew)); exact HO180.out))) (below_size (by repeat (first | (with_reducible first | exact HB.out | apply below_alloc | apply pw_below_drewN | apply below_drew1 | refine below_set ?_ GE172.out | refine below_set ?_ GE173.out | refine below_set ?_ GE184.out) | exact HB.out))))
                have n2_ := Aside0.mk (blk_below (g := gb172) (o := .cells #[.slice A0_0 l0_0.length c0_0, .slice A0_1 l0_1.length c0_1] 33 (0, 0)) (by (with_reducible repeat (first | refine blk_drewN ?_ _ | refine blk_drew ?_ | refine blk_alloc ?_ _)); exact BK172.out) hb)
                have n3_ := Aside0.mk (blk_below (g := gb173) (o := .cells #[.slice none 0 0, .slice none 0 0] 33 (0, 0)) (by (with_reducible repeat (first | refine blk_drewN ?_ _ | refine blk_drew ?_ | refine blk_alloc ?_ _)); exact BK173.out) hb)
                have n4_ := Aside0.mk (blk_below (g := gb184) (o := .cells #[.slice none 0 0, .slice none 0 0] 33 (0, 0)) (by (with_reducible repeat (first | refine blk_drewN ?_ _ | refine blk_drew ?_ | refine blk_alloc ?_ _)); exact BK184.out) hb)
                have n5_ := Aside0.mk (below_step (by repeat (first | (with_reducible first | exact HB.out | apply below_alloc | apply pw_below_drewN | apply below_drew1 | refine below_set ?_ GE172.out | refine below_set ?_ GE173.out | refine below_set ?_ GE184.out) | exact HB.out)) hb)
                clear HO180
                clear BK172
                clear BK173
                clear BK184
                clear HB
                have HO180 := n0_
                have HO183 := n1_
                have BK172 := n2_
                have BK173 := n3_
                have BK184 := n4_
                have HB := n5_
                clear n0_ n1_ n2_ n3_ n4_ n5_
                (try clear hb)
                (try clear hb2)
                (try clear hk)
                (try clear hi)
                (try clear ho0)
                obtain ⟨Ao53, co53, eo53⟩ := Kd.S_slice HO183.out
                (first | subst eo53 | (injection eo53 with f1_ f2_ f3_; have f4_ := f1_.symm; have f5_ := f3_.symm; clear f1_ f2_ f3_; subst f4_; subst f5_))
                obtain ⟨Ao54, co54, eo54⟩ := Kd.S_slice HO180.out
                (first | subst eo54 | (injection eo54 with f1_ f2_ f3_; have f4_ := f1_.symm; have f5_ := f3_.symm; clear f1_ f2_ f3_; subst f4_; subst f5_))
                refine hK.out _ _ ⟨(blk_cell BK172.out 0).trans rfl, (blk_cell BK172.out 1).trans rfl⟩ (fun hHeld => ?_)
                clear hK K
                refine norm_ (a' := ?_) ?_ ?_
                rotate_left
                · show Act.put _ (some 35) _ = _
                  simp only [Act.put, List.setIfInBounds_toArray, List.set_cons_zero, List.set_cons_succ, i64_w, i32_w]
                  rfl
                refine pure_ (i := 6) (N := some 36) (v := ?_) (a' := ?_) #[true, true, true, true, true, true, true, true, false] rfl rfl (any_of HT_.out (by kernel_rfl)) (fun _ _ _ h => h) (Or.inl ⟨by rfl, ?_⟩) ?_ ?_
                rotate_left
                · intro w'
                  go_simp
                  with_reducible rfl
                rotate_left
                · simp only [Act.put, List.setIfInBounds_toArray, List.set_cons_zero, List.set_cons_succ, i64_w, i32_w]
                  rfl
                exact norm_ (by simp only [putAll, Act.put, List.setIfInBounds_toArray, List.set_cons_zero, List.set_cons_succ]) (hCont (.slice Ao54 t178.length co54, .slice Ao53 t181.length co53, gb184) _ ⟨hHeld, (by (with_reducible repeat (first | apply Kd.S_alloc | apply Kd.S_drewN | apply Kd.S_drew)); exact Kd.S_mono HO180.out (fun _ hk => hk.2)), (by (with_reducible repeat (first | apply Kd.S_alloc | apply Kd.S_drewN | apply Kd.S_drew)); exact Kd.S_mono HO183.out (fun _ hk => hk.2)), (by (with_reducible repeat (first | refine blk_drewN ?_ _ | refine blk_drew ?_ | refine blk_alloc ?_ _)); exact BK172.out), (by (with_reducible repeat (first | refine blk_drewN ?_ _ | refine blk_drew ?_ | refine blk_alloc ?_ _)); exact BK173.out), (by (with_reducible repeat (first | refine blk_drewN ?_ _ | refine blk_drew ?_ | refine blk_alloc ?_ _)); exact BK184.out), GW184.out, GE184.out, NB172_184.out, NB184_172.out, NB173_184.out, NB184_173.out, (by repeat (first | (with_reducible first | exact HB.out | apply below_alloc | apply pw_below_drewN | apply below_drew1 | refine below_set ?_ GE172.out | refine below_set ?_ GE173.out | refine below_set ?_ GE184.out) | exact HB.out)), ⟨loA, hiA, loB, hiB, QA0.out, QB0.out, QA1.out, QB1.out, QB2.out, .inr QGA.out, .inl QB3.out, QA.out, QB.out⟩⟩)
            · skip
              refine box_step ?hg (N := 8) ?hd (cs := #[.slice none 0 0, .slice none 0 0]) (t := 33) ?hr ?_; (case hd => rfl); (case hg => rfl); (case hr => first | (go_simp; done) | (go_simp; rfl))
              intro gb184 hg w50 hbox hb
              have n0_ := Aside0.mk (blk_below (g := gb172) (o := .cells #[.slice A0_0 l0_0.length c0_0, .slice A0_1 l0_1.length c0_1] 33 (0, 0)) (by (with_reducible repeat (first | refine blk_drewN ?_ _ | refine blk_drew ?_ | refine blk_alloc ?_ _)); exact BK172.out) hb)
              have n1_ := Aside0.mk (blk_below (g := gb173) (o := .cells #[.slice none 0 0, .slice none 0 0] 33 (0, 0)) (by (with_reducible repeat (first | refine blk_drewN ?_ _ | refine blk_drew ?_ | refine blk_alloc ?_ _)); exact BK173.out) hb)
              have n2_ := Aside0.mk (below_step (by repeat (first | (with_reducible first | exact HB.out | apply below_alloc | apply pw_below_drewN | apply below_drew1 | refine below_set ?_ GE172.out | refine below_set ?_ GE173.out) | exact HB.out)) hb)
              have n3_ := Aside0.mk (hbox)
              have n4_ := Aside0.mk ((by rw [hg]; exact (below_size (by repeat (first | (with_reducible first | exact HB.out | apply below_alloc | apply pw_below_drewN | apply below_drew1 | refine below_set ?_ GE172.out | refine below_set ?_ GE173.out) | exact HB.out))) : w.heap.size ≤ gb184))
              have n5_ := Aside0.mk ((by rw [hg]; exact (below_size (by repeat (first | (with_reducible first | exact HB.out | apply below_alloc | apply pw_below_drewN | apply below_drew1 | refine below_set ?_ GE172.out | refine below_set ?_ GE173.out) | exact HB.out))) : w.heap.size ≤ gb184))
              have n6_ := Aside0.mk ((by rw [hg]; exact Nat.ne_of_lt (blk_lt (g := gb172) (o := .cells #[.slice A0_0 l0_0.length c0_0, .slice A0_1 l0_1.length c0_1] 33 (0, 0)) (by (with_reducible repeat (first | refine blk_drewN ?_ _ | refine blk_drew ?_ | refine blk_alloc ?_ _)); exact BK172.out)) : gb172 ≠ gb184))
              have n7_ := Aside0.mk ((by rw [hg]; exact Nat.ne_of_gt (blk_lt (g := gb172) (o := .cells #[.slice A0_0 l0_0.length c0_0, .slice A0_1 l0_1.length c0_1] 33 (0, 0)) (by (with_reducible repeat (first | refine blk_drewN ?_ _ | refine blk_drew ?_ | refine blk_alloc ?_ _)); exact BK172.out)) : gb184 ≠ gb172))
              have n8_ := Aside0.mk ((by rw [hg]; exact Nat.ne_of_lt (blk_lt (g := gb173) (o := .cells #[.slice none 0 0, .slice none 0 0] 33 (0, 0)) (by (with_reducible repeat (first | refine blk_drewN ?_ _ | refine blk_drew ?_ | refine blk_alloc ?_ _)); exact BK173.out)) : gb173 ≠ gb184))
              have n9_ := Aside0.mk ((by rw [hg]; exact Nat.ne_of_gt (blk_lt (g := gb173) (o := .cells #[.slice none 0 0, .slice none 0 0] 33 (0, 0)) (by (with_reducible repeat (first | refine blk_drewN ?_ _ | refine blk_drew ?_ | refine blk_alloc ?_ _)); exact BK173.out)) : gb184 ≠ gb173))
              clear BK172
              clear BK173
              clear HB
              have BK172 := n0_
              have BK173 := n1_
              have HB := n2_
              have BK184 := n3_
              have GW184 := n4_
              have GE184 := n5_
              have NB172_184 := n6_
              have NB184_172 := n7_
              have NB173_184 := n8_
              have NB184_173 := n9_
              clear n0_ n1_ n2_ n3_ n4_ n5_ n6_ n7_ n8_ n9_
              clear hb hbox hg
              refine hK.out _ _ ⟨(blk_cell BK172.out 0).trans rfl, (blk_cell BK172.out 1).trans rfl⟩ (fun hHeld => ?_)
              clear hK K
              refine norm_ (a' := ?_) ?_ ?_
              rotate_left
              · show Act.put _ (some 8) _ = _
                simp only [Act.put, List.setIfInBounds_toArray, List.set_cons_zero, List.set_cons_succ, i64_w, i32_w]
                rfl
              refine one_ (i := 2) (N := some 32) #[true, true, true, true, true, false, false, true, false] rfl rfl (one_of HT_.out (by kernel_rfl)) (by decide) (fun K hK => ?_)
              refine goes_ Try.func67 (by kernel_rfl) rfl #[.slice A0_0 l0_0.length c0_0] (by rfl) rfl rfl (by (try simp only [List.map_toArray, List.map_cons, List.map_nil]); first | done | rfl | (simp only [List.length_drop, List.length_take]; rfl)) ?_
              with_reducible refine (spec_gmOwn.calls kj3 _ _ l0_0 t178 _ ?side1 ?side2 A27.out).mono ?_
              (case side1 => repeat (first | exact (Kd.C_below HR0_0.out HB.out) | (with_reducible refine Kd.C_alloc ?_ _) | (with_reducible refine Kd.C_drewN ?_ _) | (with_reducible refine Kd.C_drew ?_)))
              (case side2 => exact HC0_0.out)
              rintro e w51 ⟨v179, rfl, ho0, hb⟩
              obtain ⟨loA, hiA, q0_, q1_, q2_, q3_, q4_⟩ : ∃ lo hi : Nat, w.heap.size ≤ lo ∧ gb173 < lo ∧ (True) ∧ (gb184 < lo) ∧ OS w51 lo hi v179 _ := ⟨_, _, below_size HB.out, blk_lt BK173.out, trivial, blk_lt BK184.out, OS.of ho0⟩
              have QA0 := Aside0.mk q0_
              have QA1 := Aside0.mk q1_
              have QA2 := Aside0.mk q2_
              have QA3 := Aside0.mk q3_
              have QA := Aside0.mk q4_
              clear q0_ q1_ q2_ q3_ q4_
              refine ⟨_, rfl, ?_⟩
              have n0_ := Aside0.mk (Kd.S_lower ho0 (below_size (by repeat (first | (with_reducible first | exact HB.out | apply below_alloc | apply pw_below_drewN | apply below_drew1 | refine below_set ?_ GE172.out | refine below_set ?_ GE173.out | refine below_set ?_ GE184.out) | exact HB.out))))
              have n1_ := Aside0.mk (blk_below (g := gb172) (o := .cells #[.slice A0_0 l0_0.length c0_0, .slice A0_1 l0_1.length c0_1] 33 (0, 0)) (by (with_reducible repeat (first | refine blk_drewN ?_ _ | refine blk_drew ?_ | refine blk_alloc ?_ _)); exact BK172.out) hb)
              have n2_ := Aside0.mk (blk_below (g := gb173) (o := .cells #[.slice none 0 0, .slice none 0 0] 33 (0, 0)) (by (with_reducible repeat (first | refine blk_drewN ?_ _ | refine blk_drew ?_ | refine blk_alloc ?_ _)); exact BK173.out) hb)
              have n3_ := Aside0.mk (blk_below (g := gb184) (o := .cells #[.slice none 0 0, .slice none 0 0] 33 (0, 0)) (by (with_reducible repeat (first | refine blk_drewN ?_ _ | refine blk_drew ?_ | refine blk_alloc ?_ _)); exact BK184.out) hb)
              have n4_ := Aside0.mk (below_step (by repeat (first | (with_reducible first | exact HB.out | apply below_alloc | apply pw_below_drewN | apply below_drew1 | refine below_set ?_ GE172.out | refine below_set ?_ GE173.out | refine below_set ?_ GE184.out) | exact HB.out)) hb)
              clear BK172
              clear BK173
              clear BK184
              clear HB
              have HO180 := n0_
              have BK172 := n1_
              have BK173 := n2_
              have BK184 := n3_
              have HB := n4_
              clear n0_ n1_ n2_ n3_ n4_
              (try clear hb)
              (try clear hb2)
              (try clear hk)
              (try clear hi)
              (try clear ho0)
              refine hK.out _ _ ⟨(blk_cell BK172.out 0).trans rfl, (blk_cell BK172.out 1).trans rfl⟩ (fun hHeld => ?_)
              clear hK K
              refine norm_ (a' := ?_) ?_ ?_
              rotate_left
              · show Act.put _ (some 32) _ = _
                simp only [Act.put, List.setIfInBounds_toArray, List.set_cons_zero, List.set_cons_succ, i64_w, i32_w]
                rfl
              refine one_ (i := 5) (N := some 35) #[true, true, true, true, true, true, false, true, false] rfl rfl (one_of HT_.out (by kernel_rfl)) (by decide) (fun K hK => ?_)
              refine goes_ Try.func67 (by kernel_rfl) rfl #[.slice A0_1 l0_1.length c0_1] (by rfl) rfl rfl (by (try simp only [List.map_toArray, List.map_cons, List.map_nil]); first | done | rfl | (simp only [List.length_drop, List.length_take]; rfl)) ?_
              with_reducible refine (spec_gmOwn.calls kj3 _ _ l0_1 t181 _ ?side1 ?side2 A28.out).mono ?_
              (case side1 => repeat (first | exact (Kd.C_below HR0_1.out HB.out) | (with_reducible refine Kd.C_alloc ?_ _) | (with_reducible refine Kd.C_drewN ?_ _) | (with_reducible refine Kd.C_drew ?_)))
              (case side2 => exact HC0_1.out)
              rintro e w52 ⟨v182, rfl, ho0, hb⟩
              obtain ⟨loB, hiB, q0_, q1_, q2_, q3_, q4_⟩ : ∃ lo hi : Nat, w.heap.size ≤ lo ∧ gb173 < lo ∧ (hiA ≤ lo) ∧ (gb184 < lo) ∧ OS w52 lo hi v182 _ := ⟨_, _, below_size HB.out, blk_lt BK173.out, QA.out.2, blk_lt BK184.out, OS.of ho0⟩
              have QB0 := Aside0.mk q0_
              have QB1 := Aside0.mk q1_
              have QB2 := Aside0.mk q2_
              have QB3 := Aside0.mk q3_
              replace QA := Aside0.mk (OS.below QA.out hb)
              have QB := Aside0.mk q4_
              clear q0_ q1_ q2_ q3_ q4_
              refine ⟨_, rfl, ?_⟩
              have n0_ := Aside0.mk (Kd.S_elder' (by (with_reducible repeat (first | apply Kd.S_alloc | apply Kd.S_drewN | apply Kd.S_drew)); exact HO180.out) (Kd.S_base ho0) hb)
              have n1_ := Aside0.mk (Kd.S_lower (Kd.S_new' ho0 (Kd.S_lt (by (with_reducible repeat (first | apply Kd.S_alloc | apply Kd.S_drewN | apply Kd.S_drew)); exact HO180.out))) (below_size (by repeat (first | (with_reducible first | exact HB.out | apply below_alloc | apply pw_below_drewN | apply below_drew1 | refine below_set ?_ GE172.out | refine below_set ?_ GE173.out | refine below_set ?_ GE184.out) | exact HB.out))))
              have n2_ := Aside0.mk (blk_below (g := gb172) (o := .cells #[.slice A0_0 l0_0.length c0_0, .slice A0_1 l0_1.length c0_1] 33 (0, 0)) (by (with_reducible repeat (first | refine blk_drewN ?_ _ | refine blk_drew ?_ | refine blk_alloc ?_ _)); exact BK172.out) hb)
              have n3_ := Aside0.mk (blk_below (g := gb173) (o := .cells #[.slice none 0 0, .slice none 0 0] 33 (0, 0)) (by (with_reducible repeat (first | refine blk_drewN ?_ _ | refine blk_drew ?_ | refine blk_alloc ?_ _)); exact BK173.out) hb)
              have n4_ := Aside0.mk (blk_below (g := gb184) (o := .cells #[.slice none 0 0, .slice none 0 0] 33 (0, 0)) (by (with_reducible repeat (first | refine blk_drewN ?_ _ | refine blk_drew ?_ | refine blk_alloc ?_ _)); exact BK184.out) hb)
              have n5_ := Aside0.mk (below_step (by repeat (first | (with_reducible first | exact HB.out | apply below_alloc | apply pw_below_drewN | apply below_drew1 | refine below_set ?_ GE172.out | refine below_set ?_ GE173.out | refine below_set ?_ GE184.out) | exact HB.out)) hb)
              clear HO180
              clear BK172
              clear BK173
              clear BK184
              clear HB
              have HO180 := n0_
              have HO183 := n1_
              have BK172 := n2_
              have BK173 := n3_
              have BK184 := n4_
              have HB := n5_
              clear n0_ n1_ n2_ n3_ n4_ n5_
              (try clear hb)
              (try clear hb2)
              (try clear hk)
              (try clear hi)
              (try clear ho0)
              obtain ⟨Ao53, co53, eo53⟩ := Kd.S_slice HO183.out
              (first | subst eo53 | (injection eo53 with f1_ f2_ f3_; have f4_ := f1_.symm; have f5_ := f3_.symm; clear f1_ f2_ f3_; subst f4_; subst f5_))
              obtain ⟨Ao54, co54, eo54⟩ := Kd.S_slice HO180.out
              (first | subst eo54 | (injection eo54 with f1_ f2_ f3_; have f4_ := f1_.symm; have f5_ := f3_.symm; clear f1_ f2_ f3_; subst f4_; subst f5_))
              refine hK.out _ _ ⟨(blk_cell BK172.out 0).trans rfl, (blk_cell BK172.out 1).trans rfl⟩ (fun hHeld => ?_)
              clear hK K
              refine norm_ (a' := ?_) ?_ ?_
              rotate_left
              · show Act.put _ (some 35) _ = _
                simp only [Act.put, List.setIfInBounds_toArray, List.set_cons_zero, List.set_cons_succ, i64_w, i32_w]
                rfl
              refine pure_ (i := 6) (N := some 36) (v := ?_) (a' := ?_) #[true, true, true, true, true, true, true, true, false] rfl rfl (any_of HT_.out (by kernel_rfl)) (fun _ _ _ h => h) (Or.inl ⟨by rfl, ?_⟩) ?_ ?_
              rotate_left
              · intro w'
                go_simp
                with_reducible rfl
              rotate_left
              · simp only [Act.put, List.setIfInBounds_toArray, List.set_cons_zero, List.set_cons_succ, i64_w, i32_w]
                rfl
              exact norm_ (by simp only [putAll, Act.put, List.setIfInBounds_toArray, List.set_cons_zero, List.set_cons_succ]) (hCont (.slice Ao54 t178.length co54, .slice Ao53 t181.length co53, gb184) _ ⟨hHeld, (by (with_reducible repeat (first | apply Kd.S_alloc | apply Kd.S_drewN | apply Kd.S_drew)); exact Kd.S_mono HO180.out (fun _ hk => hk.2)), (by (with_reducible repeat (first | apply Kd.S_alloc | apply Kd.S_drewN | apply Kd.S_drew)); exact Kd.S_mono HO183.out (fun _ hk => hk.2)), (by (with_reducible repeat (first | refine blk_drewN ?_ _ | refine blk_drew ?_ | refine blk_alloc ?_ _)); exact BK172.out), (by (with_reducible repeat (first | refine blk_drewN ?_ _ | refine blk_drew ?_ | refine blk_alloc ?_ _)); exact BK173.out), (by (with_reducible repeat (first | refine blk_drewN ?_ _ | refine blk_drew ?_ | refine blk_alloc ?_ _)); exact BK184.out), GW184.out, GE184.out, NB172_184.out, NB184_172.out, NB173_184.out, NB184_173.out, (by repeat (first | (with_reducible first | exact HB.out | apply below_alloc | apply pw_below_drewN | apply below_drew1 | refine below_set ?_ GE172.out | refine below_set ?_ GE173.out | refine below_set ?_ GE184.out) | exact HB.out)), ⟨loA, hiA, loB, hiB, QA0.out, QB0.out, QA1.out, QB1.out, QB2.out, .inl QA3.out, .inl QB3.out, QA.out, QB.out⟩⟩)
          rintro ⟨v179, v182, gb184⟩ w55 ⟨hS_, h0_, h1_, h2_, h3_, h4_, h5_, h6_, h7_, h8_, h9_, h10_, h11_, hq_⟩
          have HQ := Aside0.mk hq_
          clear hq_
          have n0_ : Aside0 (Kd.S (Kd.slice 3 (Kd.int .i64)) 22 w55 w.heap.size (fun k_ => some k_ ≠ (v182 : Value).ownBlock) v179 t178) := ⟨h0_⟩
          have n1_ : Aside0 (Kd.S (Kd.slice 3 (Kd.int .i64)) 22 w55 w.heap.size (fun k_ => some k_ ≠ (v179 : Value).ownBlock) v182 t181) := ⟨h1_⟩
          have n2_ : Aside0 (w55.heap[gb172]? = some (.cells #[.slice A0_0 l0_0.length c0_0, .slice A0_1 l0_1.length c0_1] 33 (0, 0))) := ⟨h2_⟩
          have n3_ : Aside0 (w55.heap[gb173]? = some (.cells #[.slice none 0 0, .slice none 0 0] 33 (0, 0))) := ⟨h3_⟩
          have n4_ : Aside0 (w55.heap[gb184]? = some (.cells #[.slice none 0 0, .slice none 0 0] 33 (0, 0))) := ⟨h4_⟩
          have n5_ : Aside0 (w.heap.size ≤ gb184) := ⟨h5_⟩
          have n6_ : Aside0 (w.heap.size ≤ gb184) := ⟨h6_⟩
          have n7_ : Aside0 (gb172 ≠ gb184) := ⟨h7_⟩
          have n8_ : Aside0 (gb184 ≠ gb172) := ⟨h8_⟩
          have n9_ : Aside0 (gb173 ≠ gb184) := ⟨h9_⟩
          have n10_ : Aside0 (gb184 ≠ gb173) := ⟨h10_⟩
          have n11_ : Aside0 (Below w.heap.size w w55) := ⟨h11_⟩
          clear BK172
          clear BK173
          clear HB
          clear h0_ h1_ h2_ h3_ h4_ h5_ h6_ h7_ h8_ h9_ h10_ h11_
          have HO180 := n0_
          have HO183 := n1_
          have BK172 := n2_
          have BK173 := n3_
          have BK184 := n4_
          have GW184 := n5_
          have GE184 := n6_
          have NB172_184 := n7_
          have NB184_172 := n8_
          have NB173_184 := n9_
          have NB184_173 := n10_
          have HB := n11_
          clear n0_ n1_ n2_ n3_ n4_ n5_ n6_ n7_ n8_ n9_ n10_ n11_
          have hHeld : w55.cell? ⟨gb172, 0, none⟩ = some (.slice A0_0 l0_0.length c0_0) ∧ w55.cell? ⟨gb172, 1, none⟩ = some (.slice A0_1 l0_1.length c0_1) := hS_
          obtain ⟨Ao56, co56, eo56⟩ := Kd.S_slice HO183.out
          (first | subst eo56 | (injection eo56 with f1_ f2_ f3_; have f4_ := f1_.symm; have f5_ := f3_.symm; clear f1_ f2_ f3_; subst f4_; subst f5_))
          obtain ⟨Ao57, co57, eo57⟩ := Kd.S_slice HO180.out
          (first | subst eo57 | (injection eo57 with f1_ f2_ f3_; have f4_ := f1_.symm; have f5_ := f3_.symm; clear f1_ f2_ f3_; subst f4_; subst f5_))
          refine norm_ (a' := ?_) ?_ ?_
          rotate_left
          · simp only [putAll, Act.put, List.setIfInBounds_toArray, List.set_cons_zero, List.set_cons_succ]
            rfl
          refine one_ (i := 8) (N := none) #[true, true, true, true, true, true, true, true, true] rfl rfl (one_of HT_.out (by kernel_rfl)) (by decide) (fun K hK => ?_)
          have hs58 : w55.cell? ⟨gb184, 0, none⟩ = some (.slice none 0 0) := (blk_cell BK184.out 0).trans rfl
          have hfs58 := blk_frozen BK184.out 0
          have hns58_0 := NB172_184.out
          have hns58_1 := NB173_184.out
          have hms58_0 := NB184_172.out
          have hms58_1 := NB184_173.out
          have hs59 : w55.cell? ⟨gb184, 1, none⟩ = some (.slice none 0 0) := (blk_cell BK184.out 1).trans rfl
          have hfs59 := blk_frozen BK184.out 1
          have hns59_0 := NB172_184.out
          have hns59_1 := NB173_184.out
          have hms59_0 := NB184_172.out
          have hms59_1 := NB184_173.out
          refine skip_ (w1 := ?_) (by rfl) rfl ?_ ?_
          rotate_left
          · go_simp
            rfl
          refine hK.out _ _ ⟨((cell_far (p := ⟨gb184, _, none⟩) NB172_184.out _).trans (((cell_far (p := ⟨gb184, _, none⟩) NB172_184.out _).trans (hHeld.1)))), ((cell_far (p := ⟨gb184, _, none⟩) NB172_184.out _).trans (((cell_far (p := ⟨gb184, _, none⟩) NB172_184.out _).trans (hHeld.2))))⟩ (fun hHeld => ?_)
          clear hK K
          refine done_ (done_of HT_.out (by kernel_rfl)) ?_
          obtain ⟨loA, hiA, loB, hiB, z1, z2, z3, z4, z5, z6, z7, z8, z9⟩ := HQ.out
          have QA0 := Aside0.mk z1; have QB0 := Aside0.mk z2; have QA1 := Aside0.mk z3; have QB1 := Aside0.mk z4; have QAB := Aside0.mk z5; have QGA := Aside0.mk z6; have QGB := Aside0.mk z7; have QA := Aside0.mk z8; have QB := Aside0.mk z9
          clear z1 z2 z3 z4 z5 z6 z7 z8 z9 HQ HO180 HO183
          have hgood := A29.out
          unfold spec_addGood.f at hgood
          obtain ⟨hall, hgd⟩ : addAll a1 t178 = true ∧ spec_gmGood.f kj3 (addS a1 a2 t178) t181 = some false := by
            by_cases c_ : addAll a1 t178 = true
            · rw [if_pos c_] at hgood; exact ⟨c_, hgood⟩
            · rw [if_neg c_] at hgood; cases hgood
          have HALL := Aside0.mk hall
          have HGD := Aside0.mk hgd
          clear hgood hall hgd
          obtain ⟨wq, hwq⟩ : ∃ wq : World, wq = (w55.setCell ⟨gb184, 0, none⟩ (.slice Ao57 t178.length co57)).setCell ⟨gb184, 1, none⟩ (.slice Ao56 t181.length co56) := ⟨_, rfl⟩
          rw [← hwq]
          obtain ⟨hbk, hk, hk1⟩ := store_two BK184.out hwq
          replace HB := Aside0.mk (store_below HB.out hk1 GE184.out)
          replace QA := Aside0.mk (QA.out.kept hk (fun k h1_ h2_ => by have y1_ := h1_.1; have y2_ := h1_.2; have y3_ : k = gb184 := h2_; have y4_ : gb184 < loA ∨ hiA ≤ gb184 := QGA.out; omega))
          replace QB := Aside0.mk (QB.out.kept hk (fun k h1_ h2_ => by have y1_ := h1_.1; have y2_ := h1_.2; have y3_ : k = gb184 := h2_; have y4_ : gb184 < loB ∨ hiB ≤ gb184 := QGB.out; omega))
          replace BK173 := Aside0.mk (blk_kept BK173.out hk (fun h2_ => NB173_184.out h2_))
          replace BK184 := Aside0.mk hbk
          clear hk hk1 hbk hwq hHeld
          have hq1_0 : wq.cell? ⟨gb184, 0, none⟩ = some (.slice Ao57 t178.length co57) := (blk_cell BK184.out 0).trans rfl; have hqf1_0 := blk_frozen BK184.out 0; have hq1_1 : wq.cell? ⟨gb184, 1, none⟩ = some (.slice Ao56 t181.length co56) := (blk_cell BK184.out 1).trans rfl; have hqf1_1 := blk_frozen BK184.out 1
          go_wp2
          go_loopg [40] t178.length (fun gg v40 wr => ∃ i : Nat, v40 = .int .i64 i ∧ Aside0 (i + gg = t178.length) ∧ Aside0 (OS wr loA hiA (.slice Ao57 t178.length co57) (addS a1 a2 (t178.take i) ++ t178.drop i)) ∧ Aside0 (Below w.heap.size w wr) ∧ Aside0 (Kept wq wr (In loA hiA)))
          case atStart => exact ⟨0, rfl, ⟨by omega⟩, ⟨by simpa [addS] using QA.out⟩, HB, ⟨Kept.refl _ _⟩⟩
          case round =>
            clear QA hq1_0 hq1_1 hqf1_0 hqf1_1
            obtain ⟨i, rfl, HGi, HO, HBr, HK⟩ := hrel
            rename World => wo
            have BKo := Aside0.mk (blk_kept BK184.out HK.out (fun h2_ => by have y1_ := h2_.1; have y2_ := h2_.2; have y4_ : gb184 < loA ∨ hiA ≤ gb184 := QGA.out; omega))
            have hq2_0 : wo.cell? ⟨gb184, 0, none⟩ = some (.slice Ao57 t178.length co57) := (blk_cell BKo.out 0).trans rfl; have hqf2_0 := blk_frozen BKo.out 0; have hq2_1 : wo.cell? ⟨gb184, 1, none⟩ = some (.slice Ao56 t181.length co56) := (blk_cell BKo.out 1).trans rfl; have hqf2_1 := blk_frozen BKo.out 1
            by_cases hlt : i < t178.length
            · have hltz : (i : Int) < (t178.length : Int) := by omega
              have hlen : (addS a1 a2 (t178.take i) ++ t178.drop i).length = t178.length := by simp [addS]; omega
              have hbb : t178.length ≤ 9223372036854775807 := by have q := HO.out.reads.2.2.2.1; rw [hlen] at q; exact q
              obtain ⟨g, cap, eo, hg1, hg2, hg3⟩ := Kd.S_form HO.out.1 (by omega)
              rw [hlen] at eo
              cases eo
              obtain ⟨oki, cs, hcl, hM, hcc, hfr, hoki, hH⟩ := Kd.S_elem HO.out.1 [] (i : Int) (by omega) (by omega)
              rw [show ((i : Int)).toNat = i from rfl, addS_at a1 a2 t178 i hlt] at hM
              obtain ⟨ve, rfl, hR⟩ := hM
              have hcell := hcc 0 _ rfl
              rw [show (Kd.slice 3 (Kd.int .i64)).sz = 1 from rfl, show ((i : Int)).toNat = i from rfl, Nat.mul_one, Nat.add_zero] at hcell
              obtain ⟨Ae, ce, rfl⟩ := Kd.R_slice hR
              have hin := addS_in HALL.out i hlt
              have HH := Aside0.mk hH
              have HK1 := Aside0.mk hoki
              have HRR := Aside0.mk hR
              have HHI := Aside0.mk HO.out.2
              have HSET := Aside0.mk (addS_step a1 a2 t178 i hlt)
              clear hg3 hcl hcc hfr hH hR hoki hlen hg1 hg2
              generalize hy : t178.getD i [] = y at HRR HSET hcell HH hin
              clear hy
              have hby : y.length ≤ 9223372036854775807 := (Kd.R_reads' HRR.out).2.2.2.1
              obtain ⟨jn, hjn⟩ : ∃ jn : Nat, a1 = (jn : Int) := ⟨a1.toNat, by omega⟩
              have hj : jn < y.length := by omega
              have hjz : (jn : Int) < (y.length : Int) := by omega
              obtain ⟨go, co, eo, gb, gl, cl, hG⟩ := Kd.R_form HRR.out (by omega)
              cases eo
              have GB := Aside0.mk gb
              obtain ⟨hx, hf⟩ := Kd.R_celln 0 HRR.out (jn : Int) (by omega) (by omega)
              have HP := Aside0.mk (Kd.R_putg HRR.out (jn : Int) (wrap64 (rd y (jn : Int) + a2)))
              have HOK := Aside0.mk (HRR.out.1 go rfl)
              have HYJ := Aside0.mk (show addRow a1 a2 y = y.set ((jn : Int)).toNat (wrap64 (rd y (jn : Int) + a2)) by unfold addRow; rw [hjn])
              clear gb gl cl hG hin
              rw [show ((jn : Int)).toNat = jn from rfl] at hx hf
              replace hx : wo.cell? ⟨go, jn, none⟩ = some (.int .i64 (rd y (jn : Int))) := hx
              have HRn := Aside0.mk (show Kd.R (Kd.int .i64) 3 (wo.setCell ⟨go, jn, none⟩ (.int .i64 (wrap64 (rd y (jn : Int) + a2)))) loA oki (.slice (some ⟨go, 0, none⟩) y.length ce) (addRow a1 a2 y) from by rw [HYJ.out]; exact HP.out.1)
              have HKn := Aside0.mk (show Kept wo (wo.setCell ⟨go, jn, none⟩ (.int .i64 (wrap64 (rd y (jn : Int) + a2)))) oki from Kept.setCell (S := oki) (Kept.refl _ _) (p := ⟨go, jn, none⟩) (.inl HOK.out) _)
              have HBn := Aside0.mk (show Below w.heap.size w (wo.setCell ⟨go, jn, none⟩ (.int .i64 (wrap64 (rd y (jn : Int) + a2)))) from below_set HBr.out (by have z_ := GB.out; have z2_ := QA0.out; show w.heap.size ≤ go; omega))
              have HSn := Aside0.mk (show OS (wo.setCell ⟨go, jn, none⟩ (.int .i64 (wrap64 (rd y (jn : Int) + a2)))) loA hiA _ (addS a1 a2 (t178.take (i + 1)) ++ t178.drop (i + 1)) from by
                have h1 := Kd.H_kept HH.out HKn.out (fun _ _ hn => hn)
                have h2 := Kd.H_back h1 (x' := addRow a1 a2 y) (okp := oki) ⟨_, rfl, HRn.out⟩ (fun _ h => h)
                rw [show ((i : Int)).toNat = i from rfl, HSET.out] at h2
                exact ⟨h2, Nat.le_trans HHI.out HKn.out.1⟩)
              have HKk := Aside0.mk (show Kept wq (wo.setCell ⟨go, jn, none⟩ (.int .i64 (wrap64 (rd y (jn : Int) + a2)))) (In loA hiA) from Kept.then_ HK.out HKn.out (fun k h => .inl (HK1.out k h).1))
              clear HP HYJ HOK GB HH HK1 HSET HHI HRR
              rw [hjn]
              generalize rd y (jn : Int) = zj at hx HRn HKn HBn HSn HKk
              clear HRn HKn
              go_wp2
              rw [← hjn]
              go_roundg (t178.length - (i + 1))
              case measure => have := HGi.out; omega
              case rel => exact ⟨i + 1, by go_num, ⟨by omega⟩, HSn, HBn, HKk⟩
            · have hltz : ¬ (i : Int) < (t178.length : Int) := by omega
              have : i = t178.length := by have := HGi.out; omega
              subst this
              replace QB := Aside0.mk (QB.out.kept HK.out (fun k h1_ h2_ => by have y1_ := h1_.1; have y2_ := h2_.2; have y3_ := QAB.out; omega))
              replace BK173 := Aside0.mk (blk_kept BK173.out HK.out (fun h2_ => by have y1_ := h2_.1; have y2_ := QA1.out; omega))
              have HO2 := Aside0.mk (show OS wo loA hiA (.slice Ao57 t178.length co57) (addS a1 a2 t178) by have q := HO.out; rwa [List.take_of_length_le (Nat.le_refl _), List.drop_of_length_le (Nat.le_refl _), List.append_nil] at q)
              clear HO
              have HG := Aside0.mk (show Calls Try.prog 63 #[.agg #[.slice Ao57 t178.length co57, .slice Ao56 t181.length co56]] wo _ from by
                have r1_ := HO2.out.reads
                have r2_ := QB.out.reads
                have c_ := spec_gmGood.calls kj3 _ co57 (addS a1 a2 t178) _ co56 t181 false wo r1_.2.2 (by rw [← r1_.1]; exact r1_.2.1) r2_.2.2 (by exact r2_.2.1) HGD.out
                rw [addS_length] at c_
                exact c_)
              replace HB := HBr
              have hr_0 : wo.cell? ⟨gb173, 0, none⟩ = some (.slice none 0 0) := (blk_cell BK173.out 0).trans rfl
              have hr_1 : wo.cell? ⟨gb173, 1, none⟩ = some (.slice none 0 0) := (blk_cell BK173.out 1).trans rfl
              go_wp2_with (first
                | ((with_reducible refine gate_callee (f := 63) rfl ?_); refine goesL_ (some 56) rfl rfl Try.func63 (by kernel_rfl) rfl #[.agg #[.slice Ao57 t178.length co57, .slice Ao56 t181.length co56]] rfl (by (try simp only [List.map_toArray, List.map_cons, List.map_nil]); first | done | rfl) ?_; refine (HG.out).mono ?_; rintro e w90 ⟨rfl, hd_⟩; refine ⟨_, rfl, ?_⟩; have hb : Below wo.heap.size wo w90 := (by first | exact hd_ | (obtain ⟨m_, rfl⟩ := hd_; exact pw_below_drewN (Below.refl _ _) _)); clear hd_; replace HB := Aside0.mk (below_step HB.out hb); replace HO2 := Aside0.mk (OS.below HO2.out hb); replace QB := Aside0.mk (OS.below QB.out hb); replace BKo := Aside0.mk (blk_below BKo.out hb); replace BK173 := Aside0.mk (blk_below BK173.out hb); clear hb; have hq3_0 : w90.cell? ⟨gb184, 0, none⟩ = some (.slice Ao57 t178.length co57) := (blk_cell BKo.out 0).trans rfl; have hqf3_0 := blk_frozen BKo.out 0; have hq3_1 : w90.cell? ⟨gb184, 1, none⟩ = some (.slice Ao56 t181.length co56) := (blk_cell BKo.out 1).trans rfl; have hqf3_1 := blk_frozen BKo.out 1; have hq4_0 : w90.cell? ⟨gb173, 0, none⟩ = some (.slice none 0 0) := (blk_cell BK173.out 0).trans rfl; have hqf4_0 := blk_frozen BK173.out 0; have hq4_1 : w90.cell? ⟨gb173, 1, none⟩ = some (.slice none 0 0) := (blk_cell BK173.out 1).trans rfl; have hqf4_1 := blk_frozen BK173.out 1)
                | ((with_reducible refine gate_store (t := 33) (p := 6) (v := .tmp 58) rfl ?_); refine store_event (t := 33) (p := 6) (v := .tmp 58) (w1 := (w90.setCell ⟨gb173, 0, none⟩ (.slice none 0 0)).setCell ⟨gb173, 1, none⟩ (.slice none 0 0)) ?hg ?ho ?hn ?hr ?_; (case ho => rfl); (case hg => rfl); (case hn => rfl); (case hr => first | (go_simp; done) | (go_simp; rfl)); intro w91 hw_; obtain ⟨hbk, hk, hk1⟩ := store_two BK173.out hw_; clear hw_; replace HO2 := Aside0.mk (HO2.out.kept hk (fun k h1_ h2_ => by have y1_ := h1_.1; have y3_ : k = gb173 := h2_; have y4_ := QA1.out; omega)); replace QB := Aside0.mk (QB.out.kept hk (fun k h1_ h2_ => by have y1_ := h1_.1; have y3_ : k = gb173 := h2_; have y4_ := QB1.out; omega)); replace HB := Aside0.mk (store_below HB.out hk1 GE173.out); replace BK173 := Aside0.mk hbk; clear hk hk1 hbk))
              refine bodyPost_ret (results_ct rfl _ _ gb173 33 #[.slice none 0 0, .slice none 0 0] (0, 0) _ rfl BK173.out Try.underlying33 rfl (by kernel_rfl)) rfl ?_
              exact ⟨_, _, rfl, Kd.S_nil _ _ _ _ _, Kd.S_nil _ _ _ _ _, HB.out⟩
end Go.Proofs.Yteikfmoklpokhaa.Own

