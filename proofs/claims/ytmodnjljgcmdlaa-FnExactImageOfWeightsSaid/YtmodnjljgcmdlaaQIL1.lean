/- Checks of numbers in bounds: the reference's and the program's are one plain function. -/
import Derived.Test.YtmodnjljgcmdlaaQIx0
import Derived.Test.YtmodnjljgcmdlaaQIx1
import Derived.Test.YtmodnjljgcmdlaaQIx2
import Derived.Test.YtmodnjljgcmdlaaQIEqs
namespace Go.Proofs.Ytmodnjljgcmdlaa.L1
open Go.RowKit Go.Proofs.Ytmodnjljgcmdlaa.All Go.Proofs.Ytmodnjljgcmdlaa.Eqs Go.Proofs.YtmodnjljgcmdlaaW.PrintWords Go.Proofs.YtmodnjljgcmdlaaW.PrintLast
theorem l1In_is (x lo hi : Int) : spec_l1In.f x lo hi = some (inB lo hi x) := by
  unfold spec_l1In.f inB
  by_cases h : lo ≤ x <;> simp [h]
theorem range_any {α : Type} (p : α → Bool) (z : α) (l : List α) : ∀ i d, i + d = l.length → ((List.range' i d).any fun j => p (l.getD j z)) = (l.drop i).any p
  | i, 0, h => by rw [List.drop_of_length_le (by omega)]; rfl
  | i, d + 1, h => by
    have hi : i < l.length := by omega
    rw [List.range'_succ, List.any_cons, range_any p z l (i + 1) d (by omega), List.drop_eq_getElem_cons hi, List.any_cons]
    simp [List.getD, List.getElem?_eq_getElem hi]
theorem any_not_all {α : Type} (p : α → Bool) (l : List α) : (l.any fun x => !p x) = !(l.all p) := by
  induction l with
  | nil => rfl
  | cons a l ih => rw [List.any_cons, List.all_cons, ih]; cases p a <;> simp
theorem anyOut_is (lo hi : Int) (l : List Int) : anyOut lo hi l = !(l.all (inB lo hi)) := by
  unfold anyOut
  rw [range_any (fun x => !inB lo hi x) 0 l 0 l.length (by omega), List.drop_zero, any_not_all]
theorem all_l0 (lo hi : Int) (l : List Int) (hl : l.length < 1152921504606846976) (d : Nat) : ∀ (k i : Nat), i + d = l.length → d < k → spec_l1All.l0 k lo hi l (l.length : Int) i = some ((l.drop i).all (inB lo hi)) := by
  induction d with
  | zero =>
    intro k i hi' hk
    obtain ⟨k, rfl⟩ : ∃ m, k = m + 1 := ⟨k - 1, by omega⟩
    simp only [spec_l1All.l0]; rw [if_neg (by omega), List.drop_of_length_le (by omega)]; rfl
  | succ d ih =>
    intro k i hi' hk
    obtain ⟨k, rfl⟩ : ∃ m, k = m + 1 := ⟨k - 1, by omega⟩
    have hlt : i < l.length := by omega
    simp only [spec_l1All.l0]
    rw [if_pos (by omega), if_pos (by omega), if_pos (by omega), l1In_is, Option.bind_some, List.drop_eq_getElem_cons hlt, List.all_cons, show rd l (i : Int) = l[i] by simp [rd, List.getD, List.getElem?_eq_getElem hlt]]
    cases h : inB lo hi l[i] with
    | false => rw [if_neg (by decide)]; rfl
    | true => rw [if_pos rfl, wrap_id (by omega) (by omega)]; simpa using ih k (i + 1) (by omega) (by omega)
theorem l1All_is (lo hi : Int) (l : List Int) (hl : l.length < 1152921504606846976) (k : Nat) (hk : l.length < k) : spec_l1All.f k l lo hi = some (l.all (inB lo hi)) := by
  unfold spec_l1All.f
  have := all_l0 lo hi l hl l.length k 0 (by omega) hk
  simpa using this
end Go.Proofs.Ytmodnjljgcmdlaa.L1

