/- Images: the reference's check and the program's are one plain function. -/
import Derived.Test.YtmodnjljgcmdlaaQPx0
import Derived.Test.YtmodnjljgcmdlaaQPx1
import Derived.Test.YtmodnjljgcmdlaaQPx3
import Derived.Test.YtmodnjljgcmdlaaQPEqs
import Derived.Test.YtmodnjljgcmdlaaQPL1
import Derived.Test.YtmodnjljgcmdlaaQPEqsR
namespace Go.Proofs.Ytmodnjljgcmdlaa.Maps
open Go.RowKit Go.Proofs.Ytmodnjljgcmdlaa.All Go.Proofs.Ytmodnjljgcmdlaa.Eqs Go.Proofs.Ytmodnjljgcmdlaa.L1 Go.Proofs.YtmodnjljgcmdlaaW.PrintWords Go.Proofs.YtmodnjljgcmdlaaW.PrintLast
theorem inB_iff (lo hi x : Int) : inB lo hi x = true ↔ lo ≤ x ∧ x ≤ hi := by unfold inB; simp
theorem upI {i : Nat} (h : i < 1152921504606846976) : wrap64 ((i : Int) + 1) = ((i + 1 : Nat) : Int) := by rw [wrap_id (by omega) (by omega)]; rfl
theorem rd_getElem {l : List Int} {i : Nat} (h : i < l.length) : rd l (i : Int) = l[i] := by simp [rd, List.getD, List.getElem?_eq_getElem h]
theorem rdl_getElem {l : List (List Int)} {i : Nat} (h : i < l.length) : rd_L1 l (i : Int) = l[i] := by simp [rd_L1, List.getD, List.getElem?_eq_getElem h]
/-- Both come to the same. -/
theorem both {α : Type} {f g : Nat → Option α} {r : α} (h1 : Ev f r) (h2 : Ev g r) : ∃ K, ∀ k, K ≤ k → f k = some r ∧ g k = some r := by
  obtain ⟨K1, h1⟩ := h1
  obtain ⟨K2, h2⟩ := h2
  exact ⟨max K1 K2, fun k hk => ⟨h1 k (by omega), h2 k (by omega)⟩⟩
/-! #### sums -/

theorem sum_l0 (x : List Int) (hx : ∀ v ∈ x, v.natAbs ≤ 1000000) (hl : x.length ≤ 1000) (d : Nat) : ∀ (i : Nat) (s : Int), i + d = x.length → s.natAbs ≤ i * 1000000 → Ev (fun k => impl_sum.l0 k s x (x.length : Int) i) (s + (x.drop i).sum) := by
  induction d with
  | zero =>
    intro i s hi hs
    rw [List.drop_of_length_le (show x.length ≤ i by omega), List.sum_nil, Int.add_zero]
    exact Ev.step (fun k => by simp only [impl_sum.l0]; rw [if_neg (by omega)]) (Ev.now s)
  | succ d ih =>
    intro i s hi hs
    have h1 : i < x.length := by omega
    have b1 := hx _ (List.getElem_mem h1)
    rw [List.drop_eq_getElem_cons h1, List.sum_cons, ← Int.add_assoc]
    exact Ev.step (fun k => by
      simp only [impl_sum.l0]
      rw [if_pos (by omega), if_pos (by omega), if_pos (by omega), rd_getElem h1, wrap_id (x := s + x[i]) (by omega) (by omega), upI (by omega)]) (ih (i + 1) (s + x[i]) (by omega) (by omega))
theorem evSum (x : List Int) (hx : ∀ v ∈ x, v.natAbs ≤ 1000000) (hl : x.length ≤ 1000) : Ev (fun k => impl_sum.f k x) x.sum := by
  have := sum_l0 x hx hl x.length 0 0 (by omega) (by omega)
  rw [List.drop_zero, Int.zero_add] at this
  exact this
theorem evAll (lo hi : Int) (l : List Int) (hl : l.length ≤ 1048576) : Ev (fun k => spec_l1All.f k l lo hi) (l.all (inB lo hi)) := ⟨l.length + 1, fun k hk => l1All_is lo hi l (by omega) k (by omega)⟩
/-! #### images -/

theorem three_of {l : List Int} (h : (l.length : Int) = 3) : ∃ x y z, l = [x, y, z] := by
  match l, h with
  | [x, y, z], _ => exact ⟨x, y, z, rfl⟩



/-- The number of points of a side. -/
def cnt (n : Int) : Int := wrap64 (Int.tdiv (wrap64 ((wrap64 (n + 1)) * (wrap64 (n + 2)))) 2)





end Go.Proofs.Ytmodnjljgcmdlaa.Maps

