/- Best replies: the reference's running list and the program's list of places of the greatest number are the same. -/
import Derived.Test.YteikfmoklpokhaaQcx0
import Derived.Test.YteikfmoklpokhaaQcx5
import Derived.Test.YteikfmoklpokhaaQcx6
import Derived.Test.YteikfmoklpokhaaQcEqs
import Derived.Test.YteikfmoklpokhaaQcPlay
namespace Go.Proofs.Yteikfmoklpokhaa.Games
open Go.RowKit Go.Proofs.Yteikfmoklpokhaa.All Go.Proofs.Yteikfmoklpokhaa.Eqs Go.Proofs.Yteikfmoklpokhaa.L1 Go.Proofs.Yteikfmoklpokhaa.Weights Go.Proofs.YteikfmoklpokhaaW.PrintWords Go.Proofs.YteikfmoklpokhaaW.PrintLast
theorem upI {i : Nat} (h : i < 1152921504606846976) : wrap64 ((i : Int) + 1) = ((i + 1 : Nat) : Int) := by rw [wrap_id (by omega) (by omega)]; rfl
/-- The places, counted from i on, at which a list holds m. -/
def placesFrom (m : Int) : Nat → List Int → List Int
  | _, [] => []
  | i, x :: l => if x = m then (i : Int) :: placesFrom m (i + 1) l else placesFrom m (i + 1) l
theorem places_append (m : Int) : ∀ (l : List Int) (i : Nat) (x : Int), placesFrom m i (l ++ [x]) = placesFrom m i l ++ (if x = m then [((i + l.length : Nat) : Int)] else [])
  | [], i, x => by simp [placesFrom]
  | a :: l, i, x => by
    have := places_append m l (i + 1) x
    simp only [List.cons_append, placesFrom, this, List.length_cons]
    rw [show i + 1 + l.length = i + (l.length + 1) by omega]
    by_cases h : a = m
    · rw [if_pos h, if_pos h]; rfl
    · rw [if_neg h, if_neg h]
theorem places_none (m : Int) : ∀ (l : List Int) (i : Nat), (∀ x ∈ l, x < m) → placesFrom m i l = []
  | [], _, _ => rfl
  | a :: l, i, h => by
    have := h a (by simp)
    simp only [placesFrom]
    rw [if_neg (by omega), places_none m l (i + 1) (fun x hx => h x (by simp [hx]))]
def best (l : List Int) : List Int := placesFrom (maxL l) 0 l
theorem greatest_l0 (l : List Int) (h0 : 0 < l.length) (hl : l.length ≤ 1000) (d : Nat) : ∀ (k i : Nat) (out : List Int), i + d = l.length → d + 1001 < k → out.length ≤ i → impl_greatest.l0 k l out l (l.length : Int) i = some (out ++ placesFrom (maxL l) i (l.drop i)) := by
  induction d with
  | zero =>
    intro k i out hi hk ho
    obtain ⟨k, rfl⟩ : ∃ m, k = m + 1 := ⟨k - 1, by omega⟩
    simp only [impl_greatest.l0]
    rw [if_neg (by omega), List.drop_of_length_le (show l.length ≤ i by omega)]
    simp [placesFrom]
  | succ d ih =>
    intro k i out hi hk ho
    obtain ⟨k, rfl⟩ : ∃ m, k = m + 1 := ⟨k - 1, by omega⟩
    have h1 : i < l.length := by omega
    simp only [impl_greatest.l0]
    rw [if_pos (by omega), if_pos (by omega), if_pos (by omega), max_is l h0 (by omega) k (by omega), Option.bind_some, rd_getElem h1, List.drop_eq_getElem_cons h1, wrap_id (by omega) (by omega), show ((i : Int) + 1) = ((i + 1 : Nat) : Int) by omega]
    simp only [placesFrom]
    by_cases h : l[i] = maxL l
    · rw [if_pos h, if_pos (by omega), if_pos h, ih k (i + 1) _ (by omega) (by omega) (by simp; omega), List.append_assoc]
      rfl
    · rw [if_neg h, if_neg h, ih k (i + 1) _ (by omega) (by omega) (by omega)]
theorem greatest_is (l : List Int) (h0 : 0 < l.length) (hl : l.length ≤ 1000) (k : Nat) (hk : 2010 < k) : impl_greatest.f k l = some (best l) := by
  unfold impl_greatest.f best
  have := greatest_l0 l h0 hl l.length k 0 [] (by omega) (by omega) (by simp)
  simpa using this
theorem max_append (l : List Int) (x : Int) (h0 : 0 < l.length) : maxL (l ++ [x]) = mx (maxL l) x := by
  cases l with
  | nil => simp at h0
  | cons a l => simp [maxL, List.foldl_append]
theorem max_ge (l : List Int) (h0 : 0 < l.length) : ∀ v ∈ l, v ≤ maxL l := (maxL_le (maxL l) l h0).mp (Int.le_refl _)
theorem best_append (l : List Int) (x : Int) (h0 : 0 < l.length) : best (l ++ [x]) = (if maxL l < x then [(l.length : Int)] else if x = maxL l then best l ++ [(l.length : Int)] else best l) := by
  unfold best
  rw [places_append, max_append l x h0, Nat.zero_add]
  unfold mx
  by_cases h : maxL l < x
  · rw [if_pos h, if_pos rfl, if_pos h, places_none x l 0 (fun v hv => by have := max_ge l h0 v hv; omega)]
    rfl
  · rw [if_neg h, if_neg h]
    by_cases e : x = maxL l
    · rw [if_pos e, if_pos e]
    · rw [if_neg e, if_neg e, List.append_nil]
theorem best_one (x : Int) : best [x] = [0] := by simp [best, placesFrom, maxL]
theorem best_len (l : List Int) : (best l).length ≤ l.length := by
  have : ∀ (m : Int) (l : List Int) (i : Nat), (placesFrom m i l).length ≤ l.length := by
    intro m l
    induction l with
    | nil => intro i; simp [placesFrom]
    | cons a l ih =>
      intro i
      simp only [placesFrom]
      split
      · have := ih (i + 1); simp; omega
      · have := ih (i + 1); simp; omega
  exact this _ _ _
/-! #### the reference's -/
/-- A table's rows are short and small. -/
def Fit (a : List (List Int)) (n : Nat) : Prop := ∀ r ∈ a, r.length ≤ n ∧ ∀ v ∈ r, v.natAbs ≤ 9
def sums (a : List (List Int)) (y : List Int) : List Int := a.map fun r => dotP r y
theorem rep_l1 (a : List (List Int)) (y : List Int) (i : Nat) (row : List Int) (hr : ∀ v ∈ row, v.natAbs ≤ 9) (hy : ∀ v ∈ y, v.natAbs ≤ 1000000) (hle : row.length ≤ y.length) (hl : row.length ≤ 1000) (out : List Int) (most S : Int) (R : List Int)
    (hfin : Ev (fun k => if (i : Int) = 0 then spec_gmReplies.j2 k y out most i S a (a.length : Int) i true else spec_gmReplies.j2 k y out most i S a (a.length : Int) i (decide (S > most))) R) (d : Nat) :
    ∀ (j : Nat) (s : Int), j + d = row.length → s.natAbs ≤ j * 9000000 → s + dotP (row.drop j) (y.drop j) = S → Ev (fun k => spec_gmReplies.l1 k y out most i s a (a.length : Int) i row (row.length : Int) j) R := by
  induction d with
  | zero =>
    intro j s hj hs hS
    rw [List.drop_of_length_le (show row.length ≤ j by omega)] at hS
    simp only [dotP, Int.add_zero] at hS
    subst hS
    exact Ev.step (fun k => by simp only [spec_gmReplies.l1]; rw [if_neg (by omega)]) hfin
  | succ d ih =>
    intro j s hj hs hS
    have h1 : j < row.length := by omega
    have h2 : j < y.length := by omega
    have b1 := mul_bd (hr _ (List.getElem_mem h1)) (hy _ (List.getElem_mem h2))
    rw [List.drop_eq_getElem_cons h1, List.drop_eq_getElem_cons h2] at hS
    simp only [dotP] at hS
    refine Ev.step (f := fun k => spec_gmReplies.l1 k y out most i (s + row[j] * y[j]) a (a.length : Int) i row (row.length : Int) ((j + 1 : Nat) : Int)) (fun k => ?_) (ih (j + 1) (s + row[j] * y[j]) (by omega) (by omega) (by omega))
    simp only [spec_gmReplies.l1]
    rw [if_pos (by omega), if_pos (by omega), if_pos (by omega), if_pos (by omega), rd_getElem h1, rd_getElem h2, wrap_id (x := row[j] * y[j]) (by omega) (by omega), wrap_id (x := s + row[j] * y[j]) (by omega) (by omega), upI (by omega)]
theorem rep_l0 (a : List (List Int)) (y : List Int) (hl : a.length ≤ 1000) (hy : ∀ v ∈ y, v.natAbs ≤ 1000000) (hn : y.length ≤ 1000) (ha : Fit a y.length) (d : Nat) :
    ∀ (i : Nat) (out : List Int) (most : Int), i + d = a.length → ((i = 0 ∧ out = [] ∧ most = 0) ∨ (0 < i ∧ out = best (sums (a.take i) y) ∧ most = maxL (sums (a.take i) y))) → Ev (fun k => spec_gmReplies.l0 k y out most a (a.length : Int) i) (if a.length = 0 then [] else best (sums a y)) := by
  induction d with
  | zero =>
    intro i out most hi hinv
    have e : out = (if a.length = 0 then [] else best (sums a y)) := by
      rcases hinv with ⟨h1, h2, h3⟩ | ⟨h1, h2, h3⟩
      · rw [if_pos (by omega)]; exact h2
      · rw [if_neg (by omega), h2, List.take_of_length_le (by omega)]
    rw [← e]
    exact Ev.step (fun k => by simp only [spec_gmReplies.l0]; rw [if_neg (by omega)]) (Ev.now out)
  | succ d ih =>
    intro i out most hi hinv
    have h1 : i < a.length := by omega
    have ra := ha _ (List.getElem_mem h1)
    have hs : sums (a.take (i + 1)) y = sums (a.take i) y ++ [dotP a[i] y] := by
      unfold sums
      rw [List.take_succ_eq_append_getElem h1, List.map_append]
      rfl
    have hsl : (sums (a.take i) y).length = i := by unfold sums; simp; omega
    have hbl := best_len (sums (a.take i) y)
    refine Ev.step (f := fun k => spec_gmReplies.l1 k y out most i 0 a (a.length : Int) i a[i] (a[i].length : Int) ((0 : Nat) : Int)) (fun k => by
      simp only [spec_gmReplies.l0]
      rw [if_pos (by omega), if_pos (by omega), if_pos (by omega), show rd_L1 a (i : Int) = a[i] by simp [rd_L1, List.getD, List.getElem?_eq_getElem h1]]
      rfl) (rep_l1 a y i a[i] ra.2 hy ra.1 (by omega) out most (dotP a[i] y) _ ?_ a[i].length 0 0 (by omega) (by omega) (by simp))
    have up : wrap64 ((i : Int) + 1) = ((i + 1 : Nat) : Int) := upI (by omega)
    rcases hinv with ⟨h2, h3, h4⟩ | ⟨h2, h3, h4⟩
    · subst h2
      refine Ev.congr (f := fun k => spec_gmReplies.j2 k y out most ((0 : Nat) : Int) (dotP a[0] y) a (a.length : Int) ((0 : Nat) : Int) true) (fun k => by rw [if_pos (show ((0 : Nat) : Int) = 0 from rfl)]) ?_
      refine Ev.step (f := fun k => spec_gmReplies.l0 k y ([] ++ [((0 : Nat) : Int)]) (dotP a[0] y) a (a.length : Int) ((0 + 1 : Nat) : Int)) (fun k => by
        simp only [spec_gmReplies.j2]
        rw [if_pos trivial, if_pos trivial, if_pos (by simp), up]) (ih (0 + 1) _ _ (by omega) (.inr ⟨by omega, ?_, ?_⟩))
      · rw [hs]; simp [sums, best_one]
      · rw [hs]; simp [sums, maxL]
    · refine Ev.congr (f := fun k => spec_gmReplies.j2 k y out most (i : Int) (dotP a[i] y) a (a.length : Int) (i : Int) (decide (dotP a[i] y > most))) (fun k => by rw [if_neg (by omega)]) ?_
      have hb := best_append (sums (a.take i) y) (dotP a[i] y) (by omega)
      have hm := max_append (sums (a.take i) y) (dotP a[i] y) (by omega)
      rw [hsl] at hb
      rw [← hs] at hb hm
      rw [← h4, ← h3] at hb
      rw [← h4] at hm
      unfold mx at hm
      have hol : out.length ≤ 1000 := by rw [h3]; omega
      by_cases hgt : most < dotP a[i] y
      · rw [if_pos hgt] at hb hm
        refine Ev.step (f := fun k => spec_gmReplies.l0 k y ([] ++ [(i : Int)]) (dotP a[i] y) a (a.length : Int) ((i + 1 : Nat) : Int)) (fun k => by
          simp only [spec_gmReplies.j2]
          rw [if_pos (decide_eq_true hgt), if_pos trivial, if_pos (by simp), up]) (ih (i + 1) _ _ (by omega) (.inr ⟨by omega, hb.symm, hm.symm⟩))
      · rw [if_neg hgt] at hb hm
        by_cases heq : dotP a[i] y = most
        · rw [if_pos heq] at hb
          refine Ev.step (f := fun k => spec_gmReplies.l0 k y (out ++ [(i : Int)]) most a (a.length : Int) ((i + 1 : Nat) : Int)) (fun k => by
            simp only [spec_gmReplies.j2]
            rw [if_neg (by simpa using hgt), if_pos heq, if_pos (by omega), up]) (ih (i + 1) _ _ (by omega) (.inr ⟨by omega, hb.symm, hm.symm⟩))
        · rw [if_neg heq] at hb
          refine Ev.step (f := fun k => spec_gmReplies.l0 k y out most a (a.length : Int) ((i + 1 : Nat) : Int)) (fun k => by
            simp only [spec_gmReplies.j2]
            rw [if_neg (by simpa using hgt), if_neg heq, up]) (ih (i + 1) _ _ (by omega) (.inr ⟨by omega, hb.symm, hm.symm⟩))
theorem specReplies (a : List (List Int)) (y : List Int) (h0 : 0 < a.length) (hl : a.length ≤ 1000) (hy : ∀ v ∈ y, v.natAbs ≤ 1000000) (hn : y.length ≤ 1000) (ha : Fit a y.length) : Ev (fun k => spec_gmReplies.f k a y) (best (sums a y)) := by
  have := rep_l0 a y hl hy hn ha a.length 0 [] 0 (by omega) (.inl ⟨rfl, rfl, rfl⟩)
  rwa [if_neg (by omega)] at this
/-! #### the program's -/
theorem evDot (x y : List Int) (hxy : x.length ≤ y.length) (hx : ∀ v ∈ x, v.natAbs ≤ 9) (hy : ∀ v ∈ y, v.natAbs ≤ 1000000) (hl : x.length ≤ 1000) : Ev (fun k => impl_dot.f k x y) (dotP x y) := ⟨1001, fun k hk => dot_is x y hxy hx hy hl k (by omega)⟩
theorem evGreatest (l : List Int) (h0 : 0 < l.length) (hl : l.length ≤ 1000) : Ev (fun k => impl_greatest.f k l) (best l) := ⟨2011, fun k hk => greatest_is l h0 hl k (by omega)⟩
theorem repl_l0 (a : List (List Int)) (y : List Int) (h0 : 0 < a.length) (hl : a.length ≤ 1000) (hy : ∀ v ∈ y, v.natAbs ≤ 1000000) (hn : y.length ≤ 1000) (ha : Fit a y.length) (d : Nat) :
    ∀ (i : Nat), i + d = a.length → Ev (fun k => impl_Game_rowReplies.l0 k y (sums (a.take i) y) a (a.length : Int) i) (best (sums a y)) := by
  induction d with
  | zero =>
    intro i hi
    rw [List.take_of_length_le (by omega)]
    have hsl : (sums a y).length = a.length := by unfold sums; simp
    exact Ev.step (fun k => by simp only [impl_Game_rowReplies.l0]; rw [if_neg (by omega)]) (Ev.bind (evGreatest (sums a y) (by omega) (by omega)) (Ev.now _))
  | succ d ih =>
    intro i hi
    have h1 : i < a.length := by omega
    have ra := ha _ (List.getElem_mem h1)
    have hsl : (sums (a.take i) y).length = i := by unfold sums; simp; omega
    have hs : sums (a.take (i + 1)) y = sums (a.take i) y ++ [dotP a[i] y] := by
      unfold sums
      rw [List.take_succ_eq_append_getElem h1, List.map_append]
      rfl
    have := ih (i + 1) (by omega)
    rw [hs] at this
    refine Ev.step (fun k => by
      simp only [impl_Game_rowReplies.l0]
      rw [if_pos (by omega), if_pos (by omega), if_pos (by omega), show rd_L1 a (i : Int) = a[i] by simp [rd_L1, List.getD, List.getElem?_eq_getElem h1]]) (Ev.bind (evDot a[i] y ra.1 ra.2 hy (by omega)) ?_)
    exact Ev.congr (fun k => by rw [if_pos (by omega), upI (by omega)]) this
theorem implRows (a b : List (List Int)) (y : List Int) (h0 : 0 < a.length) (hl : a.length ≤ 1000) (hy : ∀ v ∈ y, v.natAbs ≤ 1000000) (hn : y.length ≤ 1000) (ha : Fit a y.length) : Ev (fun k => impl_Game_rowReplies.f k a b y) (best (sums a y)) :=
  repl_l0 a y h0 hl hy hn ha a.length 0 (by omega)
/-! #### columns -/
def colP (c : List (List Int)) (j : Nat) : List Int := c.map fun r => r.getD j 0
def turnP (c : List (List Int)) (n : Nat) : List (List Int) := (List.range n).map (colP c)
theorem turnP_succ (c : List (List Int)) (n : Nat) : turnP c (n + 1) = turnP c n ++ [colP c n] := by simp [turnP, List.range_succ]
theorem column_l0 (c : List (List Int)) (j : Nat) (hl : c.length ≤ 1000) (hj : ∀ r ∈ c, j < r.length) (d : Nat) : ∀ (i : Nat), i + d = c.length → Ev (fun k => impl_column.l0 k j (colP (c.take i) j) c (c.length : Int) i) (colP c j) := by
  induction d with
  | zero =>
    intro i hi
    rw [List.take_of_length_le (by omega)]
    exact Ev.step (fun k => by simp only [impl_column.l0]; rw [if_neg (by omega)]) (Ev.now _)
  | succ d ih =>
    intro i hi
    have h1 : i < c.length := by omega
    have rj := hj _ (List.getElem_mem h1)
    have hcl : (colP (c.take i) j).length = i := by unfold colP; simp; omega
    have hs : colP (c.take (i + 1)) j = colP (c.take i) j ++ [rd c[i] (j : Int)] := by
      unfold colP
      rw [List.take_succ_eq_append_getElem h1, List.map_append]
      rfl
    have := ih (i + 1) (by omega)
    rw [hs] at this
    exact Ev.step (fun k => by
      simp only [impl_column.l0]
      rw [if_pos (by omega), if_pos (by omega), if_pos (by omega), show rd_L1 c (i : Int) = c[i] by simp [rd_L1, List.getD, List.getElem?_eq_getElem h1], if_pos (by omega), if_pos (by omega), if_pos (by omega), upI (by omega)]) this
theorem implColumn (c : List (List Int)) (j : Nat) (hl : c.length ≤ 1000) (hj : ∀ r ∈ c, j < r.length) : Ev (fun k => impl_column.f k c (j : Int)) (colP c j) := column_l0 c j hl hj c.length 0 (by omega)
theorem turned_l1 (c : List (List Int)) (n j : Nat) (hl : c.length ≤ 1000) (hj : ∀ r ∈ c, j < r.length) (hjn : j < 1000) (out R : List (List Int)) (ho : out.length ≤ 1000) (hfin : Ev (fun k => spec_gmTurned.l0 k c (out ++ [colP c j]) (n : Int) ((j + 1 : Nat) : Int)) R) (d : Nat) :
    ∀ (i : Nat), i + d = c.length → Ev (fun k => spec_gmTurned.l1 k c out j (colP (c.take i) j) (n : Int) j (c.length : Int) i) R := by
  induction d with
  | zero =>
    intro i hi
    rw [List.take_of_length_le (by omega)]
    exact Ev.step (fun k => by simp only [spec_gmTurned.l1]; rw [if_neg (by omega), if_pos (by omega), upI (by omega)]) hfin
  | succ d ih =>
    intro i hi
    have h1 : i < c.length := by omega
    have rj := hj _ (List.getElem_mem h1)
    have hcl : (colP (c.take i) j).length = i := by unfold colP; simp; omega
    have hs : colP (c.take (i + 1)) j = colP (c.take i) j ++ [rd c[i] (j : Int)] := by
      unfold colP
      rw [List.take_succ_eq_append_getElem h1, List.map_append]
      rfl
    have := ih (i + 1) (by omega)
    rw [hs] at this
    exact Ev.step (fun k => by
      simp only [spec_gmTurned.l1]
      rw [if_pos (by omega), if_pos (by omega), if_pos (by omega), if_pos (by omega), show rd_L1 c (i : Int) = c[i] by simp [rd_L1, List.getD, List.getElem?_eq_getElem h1], if_pos (by omega), if_pos (by omega), upI (by omega)]) this
theorem turned_l0 (c : List (List Int)) (n : Nat) (hl : c.length ≤ 1000) (hn : n ≤ 1000) (hj : ∀ r ∈ c, r.length = n) (d : Nat) : ∀ (j : Nat), j + d = n → Ev (fun k => spec_gmTurned.l0 k c (turnP c j) (n : Int) j) (turnP c n) := by
  induction d with
  | zero =>
    intro j hj'
    obtain rfl : j = n := by omega
    exact Ev.step (fun k => by simp only [spec_gmTurned.l0]; rw [if_neg (by omega)]) (Ev.now _)
  | succ d ih =>
    intro j hj'
    have := ih (j + 1) (by omega)
    rw [turnP_succ] at this
    refine Ev.step (fun k => by simp only [spec_gmTurned.l0]; rw [if_pos (by omega)]; rfl) (turned_l1 c n j hl (fun r hr => by have := hj r hr; omega) (by omega) (turnP c j) _ (by simp [turnP]; omega) this c.length 0 (by omega))
theorem specTurned (c : List (List Int)) (h0 : 0 < c.length) (hl : c.length ≤ 1000) (n : Nat) (hn : n ≤ 1000) (hj : ∀ r ∈ c, r.length = n) : Ev (fun k => spec_gmTurned.f k c) (turnP c n) := by
  have hx : (rd_L1 c 0).length = n := by
    have := hj c[0] (List.getElem_mem h0)
    rw [show rd_L1 c 0 = c[0] by simp [rd_L1, List.getD, List.getElem?_eq_getElem h0]]
    exact this
  refine Ev.congr (fun k => by unfold spec_gmTurned.f; rw [if_pos (by omega), hx]; rfl) (turned_l0 c n hl hn hj n 0 (by omega))


theorem colP_fit (c : List (List Int)) (j : Nat) (hb : ∀ r ∈ c, ∀ v ∈ r, v.natAbs ≤ 9) : ∀ v ∈ colP c j, v.natAbs ≤ 9 := by
  intro v hv
  obtain ⟨r, hr, rfl⟩ := List.mem_map.1 hv
  by_cases h : j < r.length
  · rw [show r.getD j 0 = r[j] by simp [List.getD, List.getElem?_eq_getElem h]]; exact hb r hr _ (List.getElem_mem h)
  · rw [show r.getD j 0 = 0 by simp [List.getD, List.getElem?_eq_none (show r.length ≤ j by omega)]]; simp
theorem turnP_fit (c : List (List Int)) (n : Nat) (hb : ∀ r ∈ c, ∀ v ∈ r, v.natAbs ≤ 9) : Fit (turnP c n) c.length := by
  intro r hr
  obtain ⟨j, _, rfl⟩ := List.mem_map.1 hr
  exact ⟨by simp [colP], colP_fit c j hb⟩
theorem columns_l0 (a c : List (List Int)) (x : List Int) (n : Nat) (hn0 : 0 < n) (hn : n ≤ 1000) (hl : c.length ≤ 1000) (hc : c.length = x.length) (hj : ∀ r ∈ c, r.length = n) (hb : ∀ r ∈ c, ∀ v ∈ r, v.natAbs ≤ 9) (hx : ∀ v ∈ x, v.natAbs ≤ 1000000) (d : Nat) :
    ∀ (j : Nat), j + d = n → Ev (fun k => impl_Game_columnReplies.l0 k x (sums (turnP c j) x) (n : Int) j a c) (best (sums (turnP c n) x)) := by
  have hsl : ∀ j, (sums (turnP c j) x).length = j := fun j => by simp [sums, turnP]
  induction d with
  | zero =>
    intro j hj'
    obtain rfl : j = n := by omega
    have := hsl j
    exact Ev.step (fun k => by simp only [impl_Game_columnReplies.l0]; rw [if_neg (by omega)]) (Ev.bind (evGreatest (sums (turnP c j) x) (by omega) (by omega)) (Ev.now _))
  | succ d ih =>
    intro j hj'
    have := ih (j + 1) (by omega)
    rw [turnP_succ, show sums (turnP c j ++ [colP c j]) x = sums (turnP c j) x ++ [dotP (colP c j) x] by simp [sums]] at this
    have hs := hsl j
    refine Ev.step (fun k => by simp only [impl_Game_columnReplies.l0]; rw [if_pos (by omega)]) (Ev.bind (implColumn c j hl (fun r hr => by have := hj r hr; omega)) (Ev.bind (evDot (colP c j) x (by simp [colP]; omega) (colP_fit c j hb) hx (by simp [colP]; omega)) ?_))
    exact Ev.congr (fun k => by rw [if_pos (by omega), upI (by omega)]) this
theorem implColumns (a c : List (List Int)) (x : List Int) (n : Nat) (h0 : 0 < a.length) (ha : (rd_L1 a 0).length = n) (hn0 : 0 < n) (hn : n ≤ 1000) (hl : c.length ≤ 1000) (hc : c.length = x.length) (hj : ∀ r ∈ c, r.length = n) (hb : ∀ r ∈ c, ∀ v ∈ r, v.natAbs ≤ 9) (hx : ∀ v ∈ x, v.natAbs ≤ 1000000) :
    Ev (fun k => impl_Game_columnReplies.f k a c x) (best (sums (turnP c n) x)) := by
  refine Ev.congr (fun k => by unfold impl_Game_columnReplies.f impl_Game_n.f; rw [if_pos (by omega), Option.bind_some, ha]; rfl) (columns_l0 a c x n hn0 hn hl hc hj hb hx n 0 (by omega))
end Go.Proofs.Yteikfmoklpokhaa.Games

