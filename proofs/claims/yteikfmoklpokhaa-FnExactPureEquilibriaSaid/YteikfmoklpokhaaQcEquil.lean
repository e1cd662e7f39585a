/- Replies, equilibria: the reference and the program come to the same. -/
import Derived.Test.YteikfmoklpokhaaQcx0
import Derived.Test.YteikfmoklpokhaaQcx5
import Derived.Test.YteikfmoklpokhaaQcx6
import Derived.Test.YteikfmoklpokhaaQcx7
import Derived.Test.YteikfmoklpokhaaQcx2
import Derived.Test.YteikfmoklpokhaaQcEqsR
import Derived.Test.YteikfmoklpokhaaQcGame
import Derived.Test.YteikfmoklpokhaaQcPlay
import Derived.Test.YteikfmoklpokhaaQcReplies
import Derived.Test.YteikfmoklpokhaaQcWeights
namespace Go.Proofs.Yteikfmoklpokhaa.Games
open Go.RowKit Go.Proofs.Yteikfmoklpokhaa.All Go.Proofs.Yteikfmoklpokhaa.Eqs Go.Proofs.Yteikfmoklpokhaa.L1 Go.Proofs.Yteikfmoklpokhaa.Weights Go.Proofs.YteikfmoklpokhaaW.PrintWords Go.Proofs.YteikfmoklpokhaaW.PrintLast
/-! #### is a number in a list? -/
theorem mem_head {a x : Int} {l : List Int} (h : a = x) : decide (x ∈ a :: l) = true := by simp [h]
theorem mem_tail {a x : Int} {l : List Int} (h : ¬ a = x) : decide (x ∈ a :: l) = decide (x ∈ l) := by
  have : ¬ x = a := fun e => h e.symm
  simp [this]
theorem has_l0 (l : List Int) (x : Int) (hl : l.length ≤ 1000) (d : Nat) : ∀ i : Nat, i + d = l.length → Ev (fun k => spec_l1Has.l0 k x l (l.length : Int) i) (decide (x ∈ l.drop i)) := by
  induction d with
  | zero =>
    intro i hi
    rw [List.drop_of_length_le (show l.length ≤ i by omega)]
    exact Ev.step (fun k => by simp only [spec_l1Has.l0]; rw [if_neg (by omega)]) (Ev.now false)
  | succ d ih =>
    intro i hi
    have h1 : i < l.length := by omega
    rw [List.drop_eq_getElem_cons h1]
    by_cases e : l[i] = x
    · rw [mem_head e]
      exact Ev.step (fun k => by simp only [spec_l1Has.l0]; rw [if_pos (by omega), if_pos (by omega), if_pos (by omega), rd_getElem h1, if_pos e]) (Ev.now true)
    · rw [mem_tail e]
      exact Ev.step (fun k => by simp only [spec_l1Has.l0]; rw [if_pos (by omega), if_pos (by omega), if_pos (by omega), rd_getElem h1, if_neg e, upI (by omega)]) (ih (i + 1) (by omega))
theorem specHas (l : List Int) (x : Int) (hl : l.length ≤ 1000) : Ev (fun k => spec_l1Has.f k l x) (decide (x ∈ l)) := by
  have := has_l0 l x hl l.length 0 (by omega)
  rwa [List.drop_zero] at this
theorem index_l0 (l : List Int) (x : Int) (hl : l.length ≤ 1000) (d : Nat) : ∀ i : Nat, i + d = l.length → ∃ r : Int, Ev (fun k => slices_Index_int_int.l0 k l x (l.length : Int) i) r ∧ decide (r ≥ 0) = decide (x ∈ l.drop i) := by
  induction d with
  | zero =>
    intro i hi
    rw [List.drop_of_length_le (show l.length ≤ i by omega)]
    exact ⟨-1, Ev.step (fun k => by simp only [slices_Index_int_int.l0]; rw [if_neg (by omega)]) (Ev.now (-1)), by simp⟩
  | succ d ih =>
    intro i hi
    have h1 : i < l.length := by omega
    rw [List.drop_eq_getElem_cons h1]
    by_cases e : l[i] = x
    · rw [mem_head e]
      exact ⟨(i : Int), Ev.step (fun k => by simp only [slices_Index_int_int.l0]; rw [if_pos (by omega), if_pos (by omega), if_pos (by omega), rd_getElem h1, if_pos e.symm]) (Ev.now _), decide_eq_true (by omega)⟩
    · rw [mem_tail e]
      obtain ⟨r, h2, h3⟩ := ih (i + 1) (by omega)
      exact ⟨r, Ev.step (fun k => by simp only [slices_Index_int_int.l0]; rw [if_pos (by omega), if_pos (by omega), if_pos (by omega), rd_getElem h1, if_neg (fun h => e h.symm), upI (by omega)]) h2, h3⟩
theorem implHas (l : List Int) (x : Int) (hl : l.length ≤ 1000) : Ev (fun k => slices_Contains_int_int.f k l x) (decide (x ∈ l)) := by
  obtain ⟨r, h1, h2⟩ := index_l0 l x hl l.length 0 (by omega)
  rw [List.drop_zero] at h2
  rw [← h2]
  exact Ev.bind h1 (Ev.now _)
/-! #### have only some choices weights? -/
def withinP (reps : List Int) : List Int → Nat → Bool
  | [], _ => true
  | u :: w, i => if u > 0 then (if decide ((i : Int) ∈ reps) = true then withinP reps w (i + 1) else false) else withinP reps w (i + 1)


theorem equal_l1 (reps w : List Int) (hr : reps.length ≤ 1000) (hl : w.length ≤ 1000) (d : Nat) : ∀ i : Nat, i + d = w.length → Ev (fun k => spec_gmEqual.l1 k reps w (w.length : Int) i) (withinP reps (w.drop i) i) := by
  induction d with
  | zero =>
    intro i hi
    rw [List.drop_of_length_le (show w.length ≤ i by omega)]
    exact Ev.step (fun k => by simp only [spec_gmEqual.l1]; rw [if_neg (by omega)]) (Ev.now true)
  | succ d ih =>
    intro i hi
    have h1 : i < w.length := by omega
    rw [List.drop_eq_getElem_cons h1]
    simp only [withinP]
    by_cases e : w[i] > 0
    · rw [if_pos e]
      refine Ev.step (fun k => by simp only [spec_gmEqual.l1]; rw [if_pos (by omega), if_pos (by omega), if_pos (by omega), rd_getElem h1, if_pos e]) (Ev.bind (specHas reps i hr) ?_)
      cases hd : decide ((i : Int) ∈ reps) with
      | true =>
        rw [if_pos rfl]
        exact Ev.congr (fun k => by rw [if_pos rfl, upI (by omega)]) (ih (i + 1) (by omega))
      | false => exact Ev.now false
    · rw [if_neg e]
      exact Ev.step (fun k => by simp only [spec_gmEqual.l1]; rw [if_pos (by omega), if_pos (by omega), if_pos (by omega), rd_getElem h1, if_neg e, upI (by omega)]) (ih (i + 1) (by omega))
theorem equal_l0 (rows columns x y : List Int) (hr : rows.length ≤ 1000) (hc : columns.length ≤ 1000) (hl : x.length ≤ 1000) (hy : y.length ≤ 1000) (d : Nat) : ∀ i : Nat, i + d = x.length → Ev (fun k => spec_gmEqual.l0 k y rows columns x (x.length : Int) i) (withinP rows (x.drop i) i && withinP columns y 0) := by
  induction d with
  | zero =>
    intro i hi
    rw [List.drop_of_length_le (show x.length ≤ i by omega)]
    have := equal_l1 columns y hc hy y.length 0 (by omega)
    rw [List.drop_zero] at this
    exact Ev.step (fun k => by simp only [spec_gmEqual.l0]; rw [if_neg (by omega)]; rfl) this
  | succ d ih =>
    intro i hi
    have h1 : i < x.length := by omega
    rw [List.drop_eq_getElem_cons h1]
    simp only [withinP]
    by_cases e : x[i] > 0
    · rw [if_pos e]
      refine Ev.step (fun k => by simp only [spec_gmEqual.l0]; rw [if_pos (by omega), if_pos (by omega), if_pos (by omega), rd_getElem h1, if_pos e]) (Ev.bind (specHas rows i hr) ?_)
      cases hd : decide ((i : Int) ∈ rows) with
      | true =>
        rw [if_pos rfl]
        exact Ev.congr (fun k => by rw [if_pos rfl, upI (by omega)]) (ih (i + 1) (by omega))
      | false => exact Ev.now false
    · rw [if_neg e]
      exact Ev.step (fun k => by simp only [spec_gmEqual.l0]; rw [if_pos (by omega), if_pos (by omega), if_pos (by omega), rd_getElem h1, if_neg e, upI (by omega)]) (ih (i + 1) (by omega))
/-! #### what a game is, opened -/
structure Shape (a : List (List Int)) (m n : Nat) : Prop where
  len : a.length = m
  rows : ∀ r ∈ a, r.length = n ∧ ∀ v ∈ r, v.natAbs ≤ 9
theorem shapeOf {a : List (List Int)} (h : table a = true) : Shape a a.length (a.getD 0 []).length ∧ 1 ≤ a.length ∧ a.length ≤ 3 ∧ 1 ≤ (a.getD 0 []).length ∧ (a.getD 0 []).length ≤ 3 := by
  unfold table at h
  simp only [Bool.and_eq_true, inB_iff, List.all_eq_true, decide_eq_true_eq] at h
  obtain ⟨h1, h2, h3⟩ := h
  refine ⟨⟨rfl, fun r hr => ?_⟩, by omega, by omega, by omega, by omega⟩
  obtain ⟨h4, h5⟩ := h3 r hr
  exact ⟨by omega, fun v hv => by have := h5 v hv; omega⟩

/-- A game of m rows and n columns. -/
structure IsG (a b : List (List Int)) (m n : Nat) : Prop where
  one : Shape a m n
  two : Shape b m n
  m1 : 1 ≤ m
  m3 : m ≤ 3
  n1 : 1 ≤ n
  n3 : n ≤ 3
  head : (rd_L1 a 0).length = n
theorem gameOf {a b : List (List Int)} (h : game a b = true) : IsG a b a.length (rd_L1 a 0).length := by
  unfold game at h
  simp only [Bool.and_eq_true, decide_eq_true_eq] at h
  obtain ⟨ta, tb, el, er⟩ := h
  obtain ⟨sa, a1, a3, n1, n3⟩ := shapeOf ta
  obtain ⟨sb, _⟩ := shapeOf tb
  rw [show b.length = a.length by omega, show (b.getD 0 []).length = (a.getD 0 []).length by omega] at sb
  exact ⟨sa, sb, a1, a3, n1, n3, rfl⟩
theorem IsG.fitA {a b : List (List Int)} {m n : Nat} (g : IsG a b m n) : Fit a n := fun r hr => ⟨Nat.le_of_eq (g.one.rows r hr).1, (g.one.rows r hr).2⟩
theorem evGameS (a b : List (List Int)) (ha : Small a) (hb : Small b) : Ev (fun k => spec_gmGood.f k a b) (game a b) := ⟨2097201, fun k hk => spec_game a b ha hb k (by omega)⟩


/-- Both come to the same. -/
theorem both {α : Type} {f g : Nat → Option α} {r : α} (h1 : Ev f r) (h2 : Ev g r) : ∃ K, ∀ k, K ≤ k → f k = some r ∧ g k = some r := by
  obtain ⟨K1, h1⟩ := h1
  obtain ⟨K2, h2⟩ := h2
  exact ⟨max K1 K2, fun k hk => ⟨h1 k (by omega), h2 k (by omega)⟩⟩

/-- The best replies of rows, and of columns, of a game. -/
def rowR (a : List (List Int)) (y : List Int) : List Int := best (sums a y)
def colR (b : List (List Int)) (n : Nat) (x : List Int) : List Int := best (sums (turnP b n) x)
section
variable {a b : List (List Int)} {m n : Nat}
theorem rowR_len (g : IsG a b m n) (y : List Int) : (rowR a y).length ≤ 3 := by
  have := best_len (sums a y)
  have h2 : (sums a y).length = m := by simp [sums, g.one.len]
  have := g.m3
  unfold rowR; omega
theorem colR_len (g : IsG a b m n) (x : List Int) : (colR b n x).length ≤ 3 := by
  have := best_len (sums (turnP b n) x)
  have h2 : (sums (turnP b n) x).length = n := by simp [sums, turnP]
  have := g.n3
  unfold colR; omega
theorem evRowI (g : IsG a b m n) {y : List Int} (hy : ∀ v ∈ y, v.natAbs ≤ 1000000) (hn : y.length = n) : Ev (fun k => impl_Game_rowReplies.f k a b y) (rowR a y) := by
  have h1 := g.one.len; have h2 := g.m1; have h3 := g.m3; have h4 := g.n3
  exact implRows a b y (by omega) (by omega) hy (by omega) (by rw [hn]; exact g.fitA)
theorem evRowS (g : IsG a b m n) {y : List Int} (hy : ∀ v ∈ y, v.natAbs ≤ 1000000) (hn : y.length = n) : Ev (fun k => spec_gmReplies.f k a y) (rowR a y) := by
  have h1 := g.one.len; have h2 := g.m1; have h3 := g.m3; have h4 := g.n3
  exact specReplies a y (by omega) (by omega) hy (by omega) (by rw [hn]; exact g.fitA)
theorem evColI (g : IsG a b m n) {x : List Int} (hx : ∀ v ∈ x, v.natAbs ≤ 1000000) (hm : x.length = m) : Ev (fun k => impl_Game_columnReplies.f k a b x) (colR b n x) := by
  have h1 := g.one.len; have h2 := g.m1; have h3 := g.m3; have h4 := g.n3; have h5 := g.two.len; have h6 := g.n1
  exact implColumns a b x n (by omega) g.head (by omega) (by omega) (by omega) (by omega) (fun r hr => (g.two.rows r hr).1) (fun r hr => (g.two.rows r hr).2) hx
theorem evTurnB (g : IsG a b m n) : Ev (fun k => spec_gmTurned.f k b) (turnP b n) := by
  have h2 := g.m1; have h3 := g.m3; have h4 := g.n3; have h5 := g.two.len
  exact specTurned b (by omega) (by omega) n (by omega) (fun r hr => (g.two.rows r hr).1)
theorem evColS (g : IsG a b m n) {x : List Int} (hx : ∀ v ∈ x, v.natAbs ≤ 1000000) (hm : x.length = m) : Ev (fun k => spec_gmReplies.f k (turnP b n) x) (colR b n x) := by
  have h2 := g.n1; have h3 := g.m3; have h4 := g.n3; have h5 := g.two.len
  refine specReplies (turnP b n) x (by simp [turnP]; omega) (by simp [turnP]; omega) hx (by omega) ?_
  rw [hm, ← h5]
  exact turnP_fit b n (fun r hr => (g.two.rows r hr).2)
end


/-! #### equilibria -/
/-- Are weights of a game an equilibrium? -/
def equil (a b : List (List Int)) (x y : List Int) : Bool := withinP (rowR a y) x 0 && withinP (colR b (rd_L1 a 0).length x) y 0
theorem evEqualS {a b : List (List Int)} {m n : Nat} (g : IsG a b m n) {x y : List Int} (hx : ∀ v ∈ x, v.natAbs ≤ 1000000) (hy : ∀ v ∈ y, v.natAbs ≤ 1000000) (hm : x.length = m) (hn : y.length = n) : Ev (fun k => spec_gmEqual.f k a b x y) (equil a b x y) := by
  have h1 := rowR_len g y
  have h2 := colR_len g x
  have h3 := g.m3
  have h4 := g.n3
  have h5 := g.head
  have he := equal_l0 (rowR a y) (colR b n x) x y (by omega) (by omega) (by omega) (by omega) x.length 0 (by omega)
  rw [List.drop_zero] at he
  unfold equil
  rw [h5]
  exact Ev.bind (evRowS g hy hn) (Ev.bind (evTurnB g) (Ev.bind (evColS g hx hm) he))





end Go.Proofs.Yteikfmoklpokhaa.Games

