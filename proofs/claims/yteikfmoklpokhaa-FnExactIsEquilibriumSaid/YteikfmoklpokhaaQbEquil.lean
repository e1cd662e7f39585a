/- Replies, equilibria: the reference and the program come to the same. -/
import Derived.Test.YteikfmoklpokhaaQbx0
import Derived.Test.YteikfmoklpokhaaQbx5
import Derived.Test.YteikfmoklpokhaaQbx1
import Derived.Test.YteikfmoklpokhaaQbx2
import Derived.Test.YteikfmoklpokhaaQbEqsR
import Derived.Test.YteikfmoklpokhaaQbGame
import Derived.Test.YteikfmoklpokhaaQbPlay
import Derived.Test.YteikfmoklpokhaaQbReplies
import Derived.Test.YteikfmoklpokhaaQbWeights
namespace Go.Proofs.Yteikfmoklpokhaa.Games
open Go.RowKit Go.Proofs.Yteikfmoklpokhaa.All Go.Proofs.Yteikfmoklpokhaa.Eqs Go.Proofs.Yteikfmoklpokhaa.L1 Go.Proofs.Yteikfmoklpokhaa.Weights Go.Proofs.YteikfmoklpokhaaW.PrintWords Go.Proofs.YteikfmoklpokhaaW.PrintLast
/-! #### is a number in a list? -/
theorem mem_head {a x : Int} {l : List Int} (h : a = x) : decide (x ∈ a :: l) = true := by simp [h]
theorem mem_tail {a x : Int} {l : List Int} (h : ¬ a = x) : decide (x ∈ a :: l) = decide (x ∈ l) := by
  have : ¬ x = a := fun e => h e.symm
  simp [this]
theorem has_l0 (l : List Int) (x : Int) (hl : l.length ≤ 1000) (d : Nat) : ∀ i : Nat, i + d = l.length → Ev (fun k => spec_l1Has.l0 k x l (l.length : Int) i) (decide (x ∈ l.drop i)) := by
  induction d with
  | zero =>
    intro i hi
    rw [List.drop_of_length_le (show l.length ≤ i by omega)]
    exact Ev.step (fun k => by simp only [spec_l1Has.l0]; rw [if_neg (by omega)]) (Ev.now false)
  | succ d ih =>
    intro i hi
    have h1 : i < l.length := by omega
    rw [List.drop_eq_getElem_cons h1]
    by_cases e : l[i] = x
    · rw [mem_head e]
      exact Ev.step (fun k => by simp only [spec_l1Has.l0]; rw [if_pos (by omega), if_pos (by omega), if_pos (by omega), rd_getElem h1, if_pos e]) (Ev.now true)
    · rw [mem_tail e]
      exact Ev.step (fun k => by simp only [spec_l1Has.l0]; rw [if_pos (by omega), if_pos (by omega), if_pos (by omega), rd_getElem h1, if_neg e, upI (by omega)]) (ih (i + 1) (by omega))
theorem specHas (l : List Int) (x : Int) (hl : l.length ≤ 1000) : Ev (fun k => spec_l1Has.f k l x) (decide (x ∈ l)) := by
  have := has_l0 l x hl l.length 0 (by omega)
  rwa [List.drop_zero] at this
theorem index_l0 (l : List Int) (x : Int) (hl : l.length ≤ 1000) (d : Nat) : ∀ i : Nat, i + d = l.length → ∃ r : Int, Ev (fun k => slices_Index_int_int.l0 k l x (l.length : Int) i) r ∧ decide (r ≥ 0) = decide (x ∈ l.drop i) := by
  induction d with
  | zero =>
    intro i hi
    rw [List.drop_of_length_le (show l.length ≤ i by omega)]
    exact ⟨-1, Ev.step (fun k => by simp only [slices_Index_int_int.l0]; rw [if_neg (by omega)]) (Ev.now (-1)), by simp⟩
  | succ d ih =>
    intro i hi
    have h1 : i < l.length := by omega
    rw [List.drop_eq_getElem_cons h1]
    by_cases e : l[i] = x
    · rw [mem_head e]
      exact ⟨(i : Int), Ev.step (fun k => by simp only [slices_Index_int_int.l0]; rw [if_pos (by omega), if_pos (by omega), if_pos (by omega), rd_getElem h1, if_pos e.symm]) (Ev.now _), decide_eq_true (by omega)⟩
    · rw [mem_tail e]
      obtain ⟨r, h2, h3⟩ := ih (i + 1) (by omega)
      exact ⟨r, Ev.step (fun k => by simp only [slices_Index_int_int.l0]; rw [if_pos (by omega), if_pos (by omega), if_pos (by omega), rd_getElem h1, if_neg (fun h => e h.symm), upI (by omega)]) h2, h3⟩
theorem implHas (l : List Int) (x : Int) (hl : l.length ≤ 1000) : Ev (fun k => slices_Contains_int_int.f k l x) (decide (x ∈ l)) := by
  obtain ⟨r, h1, h2⟩ := index_l0 l x hl l.length 0 (by omega)
  rw [List.drop_zero] at h2
  rw [← h2]
  exact Ev.bind h1 (Ev.now _)
/-! #### have only some choices weights? -/
def withinP (reps : List Int) : List Int → Nat → Bool
  | [], _ => true
  | u :: w, i => if u > 0 then (if decide ((i : Int) ∈ reps) = true then withinP reps w (i + 1) else false) else withinP reps w (i + 1)
theorem within_l0 (reps w : List Int) (hr : reps.length ≤ 1000) (hl : w.length ≤ 1000) (d : Nat) : ∀ i : Nat, i + d = w.length → Ev (fun k => impl_within.l0 k reps w (w.length : Int) i) (withinP reps (w.drop i) i) := by
  induction d with
  | zero =>
    intro i hi
    rw [List.drop_of_length_le (show w.length ≤ i by omega)]
    exact Ev.step (fun k => by simp only [impl_within.l0]; rw [if_neg (by omega)]) (Ev.now true)
  | succ d ih =>
    intro i hi
    have h1 : i < w.length := by omega
    rw [List.drop_eq_getElem_cons h1]
    simp only [withinP]
    by_cases e : w[i] > 0
    · rw [if_pos e]
      refine Ev.step (fun k => by simp only [impl_within.l0]; rw [if_pos (by omega), if_pos (by omega), if_pos (by omega), rd_getElem h1, if_pos e]) (Ev.bind (implHas reps i hr) ?_)
      cases hd : decide ((i : Int) ∈ reps) with
      | true =>
        rw [if_pos rfl]
        exact Ev.congr (fun k => by rw [if_pos rfl, upI (by omega)]) (ih (i + 1) (by omega))
      | false => exact Ev.now false
    · rw [if_neg e]
      exact Ev.step (fun k => by simp only [impl_within.l0]; rw [if_pos (by omega), if_pos (by omega), if_pos (by omega), rd_getElem h1, if_neg e, upI (by omega)]) (ih (i + 1) (by omega))
theorem implWithin (reps w : List Int) (hr : reps.length ≤ 1000) (hl : w.length ≤ 1000) : Ev (fun k => impl_within.f k w reps) (withinP reps w 0) := by
  have := within_l0 reps w hr hl w.length 0 (by omega)
  rwa [List.drop_zero] at this
theorem equal_l1 (reps w : List Int) (hr : reps.length ≤ 1000) (hl : w.length ≤ 1000) (d : Nat) : ∀ i : Nat, i + d = w.length → Ev (fun k => spec_gmEqual.l1 k reps w (w.length : Int) i) (withinP reps (w.drop i) i) := by
  induction d with
  | zero =>
    intro i hi
    rw [List.drop_of_length_le (show w.length ≤ i by omega)]
    exact Ev.step (fun k => by simp only [spec_gmEqual.l1]; rw [if_neg (by omega)]) (Ev.now true)
  | succ d ih =>
    intro i hi
    have h1 : i < w.length := by omega
    rw [List.drop_eq_getElem_cons h1]
    simp only [withinP]
    by_cases e : w[i] > 0
    · rw [if_pos e]
      refine Ev.step (fun k => by simp only [spec_gmEqual.l1]; rw [if_pos (by omega), if_pos (by omega), if_pos (by omega), rd_getElem h1, if_pos e]) (Ev.bind (specHas reps i hr) ?_)
      cases hd : decide ((i : Int) ∈ reps) with
      | true =>
        rw [if_pos rfl]
        exact Ev.congr (fun k => by rw [if_pos rfl, upI (by omega)]) (ih (i + 1) (by omega))
      | false => exact Ev.now false
    · rw [if_neg e]
      exact Ev.step (fun k => by simp only [spec_gmEqual.l1]; rw [if_pos (by omega), if_pos (by omega), if_pos (by omega), rd_getElem h1, if_neg e, upI (by omega)]) (ih (i + 1) (by omega))
theorem equal_l0 (rows columns x y : List Int) (hr : rows.length ≤ 1000) (hc : columns.length ≤ 1000) (hl : x.length ≤ 1000) (hy : y.length ≤ 1000) (d : Nat) : ∀ i : Nat, i + d = x.length → Ev (fun k => spec_gmEqual.l0 k y rows columns x (x.length : Int) i) (withinP rows (x.drop i) i && withinP columns y 0) := by
  induction d with
  | zero =>
    intro i hi
    rw [List.drop_of_length_le (show x.length ≤ i by omega)]
    have := equal_l1 columns y hc hy y.length 0 (by omega)
    rw [List.drop_zero] at this
    exact Ev.step (fun k => by simp only [spec_gmEqual.l0]; rw [if_neg (by omega)]; rfl) this
  | succ d ih =>
    intro i hi
    have h1 : i < x.length := by omega
    rw [List.drop_eq_getElem_cons h1]
    simp only [withinP]
    by_cases e : x[i] > 0
    · rw [if_pos e]
      refine Ev.step (fun k => by simp only [spec_gmEqual.l0]; rw [if_pos (by omega), if_pos (by omega), if_pos (by omega), rd_getElem h1, if_pos e]) (Ev.bind (specHas rows i hr) ?_)
      cases hd : decide ((i : Int) ∈ rows) with
      | true =>
        rw [if_pos rfl]
        exact Ev.congr (fun k => by rw [if_pos rfl, upI (by omega)]) (ih (i + 1) (by omega))
      | false => exact Ev.now false
    · rw [if_neg e]
      exact Ev.step (fun k => by simp only [spec_gmEqual.l0]; rw [if_pos (by omega), if_pos (by omega), if_pos (by omega), rd_getElem h1, if_neg e, upI (by omega)]) (ih (i + 1) (by omega))
/-! #### what a game is, opened -/
structure Shape (a : List (List Int)) (m n : Nat) : Prop where
  len : a.length = m
  rows : ∀ r ∈ a, r.length = n ∧ ∀ v ∈ r, v.natAbs ≤ 9
theorem shapeOf {a : List (List Int)} (h : table a = true) : Shape a a.length (a.getD 0 []).length ∧ 1 ≤ a.length ∧ a.length ≤ 3 ∧ 1 ≤ (a.getD 0 []).length ∧ (a.getD 0 []).length ≤ 3 := by
  unfold table at h
  simp only [Bool.and_eq_true, inB_iff, List.all_eq_true, decide_eq_true_eq] at h
  obtain ⟨h1, h2, h3⟩ := h
  refine ⟨⟨rfl, fun r hr => ?_⟩, by omega, by omega, by omega, by omega⟩
  obtain ⟨h4, h5⟩ := h3 r hr
  exact ⟨by omega, fun v hv => by have := h5 v hv; omega⟩
theorem weightsAll {l : List Int} {n : Int} (h : weights l n = true) : (l.length : Int) = n ∧ ∀ v ∈ l, 0 ≤ v ∧ v ≤ 1000000 := by
  unfold weights at h
  simp only [Bool.and_eq_true, List.all_eq_true, decide_eq_true_eq, inB_iff] at h
  exact ⟨h.1, h.2.1⟩
/-- A game of m rows and n columns. -/
structure IsG (a b : List (List Int)) (m n : Nat) : Prop where
  one : Shape a m n
  two : Shape b m n
  m1 : 1 ≤ m
  m3 : m ≤ 3
  n1 : 1 ≤ n
  n3 : n ≤ 3
  head : (rd_L1 a 0).length = n
theorem gameOf {a b : List (List Int)} (h : game a b = true) : IsG a b a.length (rd_L1 a 0).length := by
  unfold game at h
  simp only [Bool.and_eq_true, decide_eq_true_eq] at h
  obtain ⟨ta, tb, el, er⟩ := h
  obtain ⟨sa, a1, a3, n1, n3⟩ := shapeOf ta
  obtain ⟨sb, _⟩ := shapeOf tb
  rw [show b.length = a.length by omega, show (b.getD 0 []).length = (a.getD 0 []).length by omega] at sb
  exact ⟨sa, sb, a1, a3, n1, n3, rfl⟩
theorem IsG.fitA {a b : List (List Int)} {m n : Nat} (g : IsG a b m n) : Fit a n := fun r hr => ⟨Nat.le_of_eq (g.one.rows r hr).1, (g.one.rows r hr).2⟩
theorem evGameS (a b : List (List Int)) (ha : Small a) (hb : Small b) : Ev (fun k => spec_gmGood.f k a b) (game a b) := ⟨2097201, fun k hk => spec_game a b ha hb k (by omega)⟩
theorem evWS (l : List Int) (n : Int) (hl : l.length ≤ 1048576) : Ev (fun k => spec_gmWeights.f k l n) (weights l n) := ⟨3000000, fun k hk => specWeights l n (by omega) k (by omega)⟩
theorem evWI (l : List Int) (n : Int) (hl : l.length ≤ 1048576) : Ev (fun k => impl_areWeights.f k l n) (weights l n) := ⟨3000000, fun k hk => implWeights l n (by omega) k (by omega)⟩
/-- Both come to the same. -/
theorem both {α : Type} {f g : Nat → Option α} {r : α} (h1 : Ev f r) (h2 : Ev g r) : ∃ K, ∀ k, K ≤ k → f k = some r ∧ g k = some r := by
  obtain ⟨K1, h1⟩ := h1
  obtain ⟨K2, h2⟩ := h2
  exact ⟨max K1 K2, fun k hk => ⟨h1 k (by omega), h2 k (by omega)⟩⟩
theorem nabs {y : List Int} (h : ∀ v ∈ y, 0 ≤ v ∧ v ≤ 1000000) : ∀ v ∈ y, v.natAbs ≤ 1000000 := fun v hv => by have := h v hv; omega
/-- The best replies of rows, and of columns, of a game. -/
def rowR (a : List (List Int)) (y : List Int) : List Int := best (sums a y)
def colR (b : List (List Int)) (n : Nat) (x : List Int) : List Int := best (sums (turnP b n) x)
section
variable {a b : List (List Int)} {m n : Nat}
theorem rowR_len (g : IsG a b m n) (y : List Int) : (rowR a y).length ≤ 3 := by
  have := best_len (sums a y)
  have h2 : (sums a y).length = m := by simp [sums, g.one.len]
  have := g.m3
  unfold rowR; omega
theorem colR_len (g : IsG a b m n) (x : List Int) : (colR b n x).length ≤ 3 := by
  have := best_len (sums (turnP b n) x)
  have h2 : (sums (turnP b n) x).length = n := by simp [sums, turnP]
  have := g.n3
  unfold colR; omega
theorem evRowI (g : IsG a b m n) {y : List Int} (hy : ∀ v ∈ y, v.natAbs ≤ 1000000) (hn : y.length = n) : Ev (fun k => impl_Game_rowReplies.f k a b y) (rowR a y) := by
  have h1 := g.one.len; have h2 := g.m1; have h3 := g.m3; have h4 := g.n3
  exact implRows a b y (by omega) (by omega) hy (by omega) (by rw [hn]; exact g.fitA)
theorem evRowS (g : IsG a b m n) {y : List Int} (hy : ∀ v ∈ y, v.natAbs ≤ 1000000) (hn : y.length = n) : Ev (fun k => spec_gmReplies.f k a y) (rowR a y) := by
  have h1 := g.one.len; have h2 := g.m1; have h3 := g.m3; have h4 := g.n3
  exact specReplies a y (by omega) (by omega) hy (by omega) (by rw [hn]; exact g.fitA)
theorem evColI (g : IsG a b m n) {x : List Int} (hx : ∀ v ∈ x, v.natAbs ≤ 1000000) (hm : x.length = m) : Ev (fun k => impl_Game_columnReplies.f k a b x) (colR b n x) := by
  have h1 := g.one.len; have h2 := g.m1; have h3 := g.m3; have h4 := g.n3; have h5 := g.two.len; have h6 := g.n1
  exact implColumns a b x n (by omega) g.head (by omega) (by omega) (by omega) (by omega) (fun r hr => (g.two.rows r hr).1) (fun r hr => (g.two.rows r hr).2) hx
theorem evTurnB (g : IsG a b m n) : Ev (fun k => spec_gmTurned.f k b) (turnP b n) := by
  have h2 := g.m1; have h3 := g.m3; have h4 := g.n3; have h5 := g.two.len
  exact specTurned b (by omega) (by omega) n (by omega) (fun r hr => (g.two.rows r hr).1)
theorem evColS (g : IsG a b m n) {x : List Int} (hx : ∀ v ∈ x, v.natAbs ≤ 1000000) (hm : x.length = m) : Ev (fun k => spec_gmReplies.f k (turnP b n) x) (colR b n x) := by
  have h2 := g.n1; have h3 := g.m3; have h4 := g.n3; have h5 := g.two.len
  refine specReplies (turnP b n) x (by simp [turnP]; omega) (by simp [turnP]; omega) hx (by omega) ?_
  rw [hm, ← h5]
  exact turnP_fit b n (fun r hr => (g.two.rows r hr).2)
end
theorem rowReplies_same (a b : List (List Int)) (y : List Int) (ha : Small a) (hb : Small b) (hl : y.length ≤ 1048576) : ∃ r t, r.length ≤ 1048576 ∧ ∃ K, ∀ k, K ≤ k → spec_RowReplies.f k a b y = some (r, t) ∧ impl_RowReplies.f k a b y = some (r, t) := by
  cases e : game a b with
  | false =>
    refine ⟨[], false, by simp, both ?_ ?_⟩
    · have := evGameS a b ha hb
      rw [e] at this
      exact Ev.bind this (Ev.now _)
    · exact Ev.congr (fun k => by unfold impl_RowReplies.f; rw [impl_game, e]; rfl) (Ev.now _)
  | true =>
    have g := gameOf e
    have h0 := g.m1
    cases e2 : weights y ((rd_L1 a 0).length : Int) with
    | false =>
      refine ⟨[], false, by simp, both ?_ ?_⟩
      · have h1 := evGameS a b ha hb
        have h2 := evWS y ((rd_L1 a 0).length : Int) hl
        rw [e] at h1
        rw [e2] at h2
        exact Ev.bind h1 (Ev.congr (fun k => by rw [if_pos rfl, if_pos (by omega)]) (Ev.bind h2 (Ev.now _)))
      · have h2 := evWI y ((rd_L1 a 0).length : Int) hl
        rw [e2] at h2
        refine Ev.congr (fun k => by unfold impl_RowReplies.f impl_Game_n.f; rw [impl_game, e, Option.bind_some, if_pos rfl, if_pos (by omega), Option.bind_some]) (Ev.bind h2 (Ev.now _))
    | true =>
      obtain ⟨hn, hb2⟩ := weightsAll e2
      have hrl := rowR_len g y
      refine ⟨rowR a y, true, by omega, both ?_ ?_⟩
      · have h1 := evGameS a b ha hb
        have h2 := evWS y ((rd_L1 a 0).length : Int) hl
        rw [e] at h1
        rw [e2] at h2
        exact Ev.bind h1 (Ev.congr (fun k => by rw [if_pos rfl, if_pos (by omega)]) (Ev.bind h2 (Ev.congr (fun k => by rw [if_pos rfl]) (Ev.bind (evRowS g (nabs hb2) (by omega)) (Ev.now _)))))
      · have h2 := evWI y ((rd_L1 a 0).length : Int) hl
        rw [e2] at h2
        refine Ev.congr (fun k => by unfold impl_RowReplies.f impl_Game_n.f; rw [impl_game, e, Option.bind_some, if_pos rfl, if_pos (by omega), Option.bind_some]) (Ev.bind h2 (Ev.congr (fun k => by rw [if_pos rfl]) (Ev.bind (evRowI g (nabs hb2) (by omega)) (Ev.now _))))
theorem columnReplies_same (a b : List (List Int)) (x : List Int) (ha : Small a) (hb : Small b) (hl : x.length ≤ 1048576) : ∃ r t, r.length ≤ 1048576 ∧ ∃ K, ∀ k, K ≤ k → spec_ColumnReplies.f k a b x = some (r, t) ∧ impl_ColumnReplies.f k a b x = some (r, t) := by
  cases e : game a b with
  | false =>
    refine ⟨[], false, by simp, both ?_ ?_⟩
    · have := evGameS a b ha hb
      rw [e] at this
      exact Ev.bind this (Ev.step (fun k => by rw [if_neg (by decide)]; simp only [spec_ColumnReplies.j0]; rw [if_pos trivial]) (Ev.now _))
    · exact Ev.congr (fun k => by unfold impl_ColumnReplies.f; rw [impl_game, e]; rfl) (Ev.now _)
  | true =>
    have g := gameOf e
    have h0 := g.m1
    cases e2 : weights x (a.length : Int) with
    | false =>
      refine ⟨[], false, by simp, both ?_ ?_⟩
      · have h1 := evGameS a b ha hb
        have h2 := evWS x (a.length : Int) hl
        rw [e] at h1
        rw [e2] at h2
        exact Ev.bind h1 (Ev.congr (fun k => by rw [if_pos rfl]) (Ev.bind h2 (Ev.step (fun k => by simp only [spec_ColumnReplies.j0]; rw [if_pos (by rfl)]) (Ev.now _))))
      · have h2 := evWI x (a.length : Int) hl
        rw [e2] at h2
        refine Ev.congr (fun k => by unfold impl_ColumnReplies.f impl_Game_m.f; rw [impl_game, e, Option.bind_some, if_pos rfl, Option.bind_some]) (Ev.bind h2 (Ev.now _))
    | true =>
      obtain ⟨hn, hb2⟩ := weightsAll e2
      have hrl := colR_len g x
      refine ⟨colR b (rd_L1 a 0).length x, true, by omega, both ?_ ?_⟩
      · have h1 := evGameS a b ha hb
        have h2 := evWS x (a.length : Int) hl
        rw [e] at h1
        rw [e2] at h2
        exact Ev.bind h1 (Ev.congr (fun k => by rw [if_pos rfl]) (Ev.bind h2 (Ev.step (fun k => by simp only [spec_ColumnReplies.j0]; rw [if_neg (by decide)]) (Ev.bind (evTurnB g) (Ev.bind (evColS g (nabs hb2) (by omega)) (Ev.now (_, true)))))))
      · have h2 := evWI x (a.length : Int) hl
        rw [e2] at h2
        refine Ev.congr (fun k => by unfold impl_ColumnReplies.f impl_Game_m.f; rw [impl_game, e, Option.bind_some, if_pos rfl, Option.bind_some]) (Ev.bind h2 (Ev.congr (fun k => by rw [if_pos rfl]) (Ev.bind (evColI g (nabs hb2) (by omega)) (Ev.now _))))
/-! #### equilibria -/
/-- Are weights of a game an equilibrium? -/
def equil (a b : List (List Int)) (x y : List Int) : Bool := withinP (rowR a y) x 0 && withinP (colR b (rd_L1 a 0).length x) y 0
theorem evEqualS {a b : List (List Int)} {m n : Nat} (g : IsG a b m n) {x y : List Int} (hx : ∀ v ∈ x, v.natAbs ≤ 1000000) (hy : ∀ v ∈ y, v.natAbs ≤ 1000000) (hm : x.length = m) (hn : y.length = n) : Ev (fun k => spec_gmEqual.f k a b x y) (equil a b x y) := by
  have h1 := rowR_len g y
  have h2 := colR_len g x
  have h3 := g.m3
  have h4 := g.n3
  have h5 := g.head
  have he := equal_l0 (rowR a y) (colR b n x) x y (by omega) (by omega) (by omega) (by omega) x.length 0 (by omega)
  rw [List.drop_zero] at he
  unfold equil
  rw [h5]
  exact Ev.bind (evRowS g hy hn) (Ev.bind (evTurnB g) (Ev.bind (evColS g hx hm) he))
/-- A game and weights for both players. -/
def pairP (a b : List (List Int)) (x y : List Int) : Bool := game a b && (weights x (a.length : Int) && weights y ((rd_L1 a 0).length : Int))
theorem evPairS (a b : List (List Int)) (x y : List Int) (ha : Small a) (hb : Small b) (hx : x.length ≤ 1048576) (hy : y.length ≤ 1048576) : Ev (fun k => spec_gmBoth.f k a b x y) (pairP a b x y) := by
  have h1 := evGameS a b ha hb
  have h2 := evWS x (a.length : Int) hx
  have h3 := evWS y ((rd_L1 a 0).length : Int) hy
  unfold pairP
  cases e : game a b with
  | false => rw [e] at h1; exact Ev.bind h1 (Ev.now _)
  | true =>
    have h0 := (gameOf e).m1
    rw [e] at h1
    cases e2 : weights x (a.length : Int) with
    | false => rw [e2] at h2; exact Ev.bind h1 (Ev.congr (fun k => by rw [if_pos rfl]) (Ev.bind h2 (Ev.congr (fun k => by rw [if_neg (by decide)]; rfl) (Ev.now _))))
    | true => rw [e2] at h2; exact Ev.bind h1 (Ev.congr (fun k => by rw [if_pos rfl]) (Ev.bind h2 (Ev.congr (fun k => by rw [if_pos rfl, if_pos (by omega)]) (Ev.bind h3 (Ev.now _)))))
theorem evPairI (a b : List (List Int)) (x y : List Int) (hx : x.length ≤ 1048576) (hy : y.length ≤ 1048576) : Ev (fun k => impl_isPair.f k a b x y) (pairP a b x y) := by
  have h2 := evWI x (a.length : Int) hx
  have h3 := evWI y ((rd_L1 a 0).length : Int) hy
  unfold pairP
  cases e : game a b with
  | false => exact Ev.congr (fun k => by unfold impl_isPair.f; rw [impl_game, e]; rfl) (Ev.now _)
  | true =>
    have h0 := (gameOf e).m1
    refine Ev.congr (fun k => by unfold impl_isPair.f impl_Game_m.f impl_Game_n.f; rw [impl_game, e, Option.bind_some, if_pos rfl, Option.bind_some, if_pos (by omega)]) ?_
    cases e2 : weights x (a.length : Int) with
    | false => rw [e2] at h2; exact Ev.bind h2 (Ev.now _)
    | true => rw [e2] at h2; exact Ev.bind h2 (Ev.congr (fun k => by rw [if_pos rfl, Option.bind_some]) (Ev.bind h3 (Ev.now _)))
theorem pairOf {a b : List (List Int)} {x y : List Int} (h : pairP a b x y = true) : IsG a b a.length (rd_L1 a 0).length ∧ x.length = a.length ∧ y.length = (rd_L1 a 0).length ∧ (∀ v ∈ x, v.natAbs ≤ 1000000) ∧ ∀ v ∈ y, v.natAbs ≤ 1000000 := by
  unfold pairP at h
  simp only [Bool.and_eq_true] at h
  obtain ⟨h1, h2, h3⟩ := h
  obtain ⟨e2, b2⟩ := weightsAll h2
  obtain ⟨e3, b3⟩ := weightsAll h3
  exact ⟨gameOf h1, by omega, by omega, nabs b2, nabs b3⟩
theorem isEquilibrium_same (a b : List (List Int)) (x y : List Int) (ha : Small a) (hb : Small b) (hx : x.length ≤ 1048576) (hy : y.length ≤ 1048576) : ∃ r t, ∃ K, ∀ k, K ≤ k → spec_IsEquilibrium.f k a b x y = some (r, t) ∧ impl_IsEquilibrium.f k a b x y = some (r, t) := by
  have hs := evPairS a b x y ha hb hx hy
  have hi := evPairI a b x y hx hy
  cases e : pairP a b x y with
  | false =>
    rw [e] at hs hi
    exact ⟨false, false, both (Ev.bind hs (Ev.now _)) (Ev.bind hi (Ev.now _))⟩
  | true =>
    rw [e] at hs hi
    obtain ⟨g, e1, e2, b1, b2⟩ := pairOf e
    have h1 := rowR_len g y
    have h2 := colR_len g x
    have h3 := g.m3
    have h4 := g.n3
    refine ⟨equil a b x y, true, both (Ev.bind hs (Ev.congr (fun k => by rw [if_pos rfl]) (Ev.bind (evEqualS g b1 b2 e1 e2) (Ev.now _)))) (Ev.bind hi (Ev.congr (fun k => by rw [if_pos rfl]) (Ev.bind (evRowI g b2 e2) (Ev.bind (implWithin (rowR a y) x (by omega) (by omega)) ?_))))⟩
    unfold equil
    cases hw : withinP (rowR a y) x 0 with
    | false => exact Ev.now _
    | true => rw [Bool.true_and]; exact Ev.congr (fun k => by rw [if_pos rfl]) (Ev.bind (evColI g b1 e1) (Ev.bind (implWithin (colR b (rd_L1 a 0).length x) y (by omega) (by omega)) (Ev.now (_, true))))
end Go.Proofs.Yteikfmoklpokhaa.Games

