/- What a game is: the reference's check and the program's are one plain function. -/
import Derived.Test.YteikfmoklpokhaaQAx0
import Derived.Test.YteikfmoklpokhaaQAx1
import Derived.Test.YteikfmoklpokhaaQAx2
import Derived.Test.YteikfmoklpokhaaQAx3
import Derived.Test.YteikfmoklpokhaaQAx4
import Derived.Test.YteikfmoklpokhaaQAEqs
import Derived.Test.YteikfmoklpokhaaQAEqsR
import Derived.Test.YteikfmoklpokhaaQAL1
namespace Go.Proofs.Yteikfmoklpokhaa.Games
open Go.RowKit Go.Proofs.Yteikfmoklpokhaa.All Go.Proofs.Yteikfmoklpokhaa.Eqs Go.Proofs.Yteikfmoklpokhaa.L1 Go.Proofs.YteikfmoklpokhaaW.PrintWords Go.Proofs.YteikfmoklpokhaaW.PrintLast
/-- A table: 1 to 3 rows of 1 to 3 numbers, alike, from -9 to 9. -/
def table (a : List (List Int)) : Bool := inB 1 3 (a.length : Int) && (inB 1 3 ((a.getD 0 []).length : Int) && a.all fun r => decide ((r.length : Int) = ((a.getD 0 []).length : Int)) && r.all (inB (-9) 9))
theorem badRow_is (n : Nat) (r : List Int) : badRow n r = !(decide ((r.length : Int) = (n : Int)) && r.all (inB (-9) 9)) := by
  unfold badRow
  rw [anyOut_is]
  by_cases h : (r.length : Int) = (n : Int)
  · rw [decide_eq_true h, show ((r.length : Int) != (n : Int)) = false from bne_eq_false_iff_eq.mpr h]; simp
  · rw [decide_eq_false h, show ((r.length : Int) != (n : Int)) = true from bne_iff_ne.mpr h]; simp
theorem impl_table (a : List (List Int)) : impl_isTable.f a = some (table a) := by
  unfold impl_isTable.f table anyBadRow
  cases e1 : inB 1 3 (a.length : Int) with
  | false => rw [if_neg (by decide)]; rfl
  | true =>
    rw [if_pos rfl, Bool.true_and]
    cases e2 : inB 1 3 ((a.getD 0 []).length : Int) with
    | false => rw [if_neg (by decide)]; rfl
    | true =>
      rw [if_pos rfl, Bool.true_and, range_any (badRow (a.getD 0 []).length) [] a 0 a.length (by omega), List.drop_zero]
      have : (a.any (badRow (a.getD 0 []).length)) = a.any fun r => !(decide ((r.length : Int) = ((a.getD 0 []).length : Int)) && r.all (inB (-9) 9)) := by
        congr 1; funext l; exact badRow_is _ l
      rw [this, any_not_all, Bool.not_not]
theorem rows_l0 (a : List (List Int)) (hs : Small a) (h0 : 0 < a.length) (d : Nat) : ∀ (k i : Nat), i + d = a.length → d + 1048578 < k → spec_gmRows.l0 k a a (a.length : Int) i = some ((a.drop i).all fun r => decide ((r.length : Int) = ((a.getD 0 []).length : Int)) && r.all (inB (-9) 9)) := by
  have hl := hs.1
  induction d with
  | zero =>
    intro k i hi hk
    obtain ⟨k, rfl⟩ : ∃ m, k = m + 1 := ⟨k - 1, by omega⟩
    simp only [spec_gmRows.l0]
    rw [if_neg (by omega), List.drop_of_length_le (by omega)]
    rfl
  | succ d ih =>
    intro k i hi hk
    obtain ⟨k, rfl⟩ : ∃ m, k = m + 1 := ⟨k - 1, by omega⟩
    have hlt : i < a.length := by omega
    have hx := hs.2 _ (List.getElem_mem hlt)
    simp only [spec_gmRows.l0]
    rw [if_pos (by omega), if_pos (by omega), if_pos (by omega), if_pos (by omega), show rd_L1 a (i : Int) = a[i] by simp [rd_L1, List.getD, List.getElem?_eq_getElem hlt], show rd_L1 a 0 = a.getD 0 [] from rfl, List.drop_eq_getElem_cons hlt, List.all_cons]
    by_cases e : ((a[i].length : Nat) : Int) = ((a.getD 0 []).length : Int)
    · rw [if_pos e, l1All_is _ _ _ (by omega) k (by omega), Option.bind_some, decide_eq_true e, Bool.true_and]
      cases e2 : a[i].all (inB (-9) 9) with
      | false => rw [if_neg (by decide)]; rfl
      | true => rw [if_pos rfl, wrap_id (by omega) (by omega), Bool.true_and]; exact ih k (i + 1) (by omega) (by omega)
    · rw [if_neg e, decide_eq_false e]; rfl
theorem spec_table (a : List (List Int)) (hs : Small a) (k : Nat) (hk : 2097200 < k) : spec_gmRows.f k a = some (table a) := by
  have hl := hs.1
  unfold spec_gmRows.f table
  rw [l1In_is, Option.bind_some]
  obtain ⟨k, rfl⟩ : ∃ m, k = m + 1 := ⟨k - 1, by omega⟩
  cases e1 : inB 1 3 (a.length : Int) with
  | false => rw [if_neg (by decide)]; rfl
  | true =>
    have h0 : 0 < a.length := by unfold inB at e1; simp at e1; omega
    rw [if_pos rfl, Bool.true_and, if_pos (by omega), l1In_is, Option.bind_some, show rd_L1 a 0 = a.getD 0 [] from rfl]
    cases e2 : inB 1 3 ((a.getD 0 []).length : Int) with
    | false => rfl
    | true =>
      simp only [spec_gmRows.j0, Bool.not_true, Bool.false_eq_true, if_false, Bool.true_and]
      have := rows_l0 a hs h0 a.length k 0 (by omega) (by omega)
      simpa using this
/-- A game: two tables of one shape. -/
def game (a b : List (List Int)) : Bool := table a && (table b && (decide ((a.length : Int) = (b.length : Int)) && decide (((a.getD 0 []).length : Int) = ((b.getD 0 []).length : Int))))
theorem table_pos {a : List (List Int)} (h : table a = true) : 0 < a.length := by
  unfold table inB at h; simp at h; omega
theorem impl_game (a b : List (List Int)) : impl_IsGame.f a b = some (game a b) := by
  unfold impl_IsGame.f game
  rw [impl_table, Option.bind_some]
  cases e1 : table a with
  | false => rfl
  | true =>
    rw [if_pos rfl, impl_table, Option.bind_some, Bool.true_and]
    cases e2 : table b with
    | false => rfl
    | true =>
      have h1 := table_pos e1
      have h2 := table_pos e2
      rw [if_pos rfl, Bool.true_and]
      by_cases e : (a.length : Int) = (b.length : Int)
      · rw [if_pos e, if_pos (by omega), if_pos (by omega), decide_eq_true e]; rfl
      · rw [if_neg e, decide_eq_false e]; rfl
theorem spec_game (a b : List (List Int)) (ha : Small a) (hb : Small b) (k : Nat) (hk : 2097200 < k) : spec_gmGood.f k a b = some (game a b) := by
  unfold spec_gmGood.f game
  rw [spec_table a ha k hk, Option.bind_some]
  cases e1 : table a with
  | false => rfl
  | true =>
    rw [if_pos rfl, spec_table b hb k hk, Option.bind_some, Bool.true_and]
    cases e2 : table b with
    | false => rfl
    | true =>
      have h1 := table_pos e1
      have h2 := table_pos e2
      rw [if_pos rfl, Bool.true_and]
      by_cases e : (a.length : Int) = (b.length : Int)
      · rw [if_pos e, if_pos (by omega), if_pos (by omega), decide_eq_true e]; rfl
      · rw [if_neg e, decide_eq_false e]; rfl
end Go.Proofs.Yteikfmoklpokhaa.Games

