/- What pieces and rooms are worth to all people: the reference and the program come to the same lists. -/
import Derived.Test.YtbbkohmebjcghaaQCx0
import Derived.Test.YtbbkohmebjcghaaQCx3
import Derived.Test.YtbbkohmebjcghaaQCx1
import Derived.Test.YtbbkohmebjcghaaQCx2
import Derived.Test.YtbbkohmebjcghaaQCCakeAs0
import Derived.Test.YtbbkohmebjcghaaQCCakeAs3
import Derived.Test.YtbbkohmebjcghaaQCCakeBs3
import Derived.Test.YtbbkohmebjcghaaQCEqs
namespace Go.Proofs.Ytbbkohmebjcghaa.Cake
open Go.RowKit Go.Proofs.Ytbbkohmebjcghaa.All Go.Proofs.Ytbbkohmebjcghaa.Eqs Go.Proofs.YtbbkohmebjcghaaW.PrintWords Go.Proofs.YtbbkohmebjcghaaW.PrintLast Go.Proofs.YtbbkohmebjcghaaW.PrintMore
def worth3 (a b c : Nat) (t : List Int) : List Int := [seg t 0 a, seg t a b, seg t (a + b) c]
/-- Good tastes: three lists of n numbers in 0..9. -/
def Good (n : Nat) (ls : List (List Int)) : Prop := ls.length = 3 ∧ ∀ t ∈ ls, t.length = n ∧ t.all (inB 0 9) = true
theorem good_of {n : Int} {ls : List (List Int)} (h : tastesOk n ls = true) : 1 ≤ n ∧ n ≤ 8 ∧ Good n.toNat ls := by
  unfold tastesOk three inB at h
  simp only [Bool.and_eq_true, decide_eq_true_eq, List.all_eq_true] at h
  obtain ⟨⟨h1, h2⟩, h3, h4⟩ := h
  refine ⟨h1, h2, by omega, fun t ht => ⟨by have := (h4 t ht).1; omega, List.all_eq_true.2 fun x hx => ?_⟩⟩
  have := (h4 t ht).2 x hx
  simpa only [inB, Bool.and_eq_true, decide_eq_true_eq] using this
theorem worths_l0 (n i : Int) (a b c : Nat) (hp : ∀ k, 20 ≤ k → spec_meAt.f k n i = some [(a : Int), (b : Int), (c : Int)]) (ls : List (List Int)) (hg : Good (a + b + c) ls) (h8 : a + b + c ≤ 8) (d : Nat) : ∀ (k j : Nat) (out : List (List Int)), j + d = ls.length → d + 200 < k → out.length + d < 1000 →
    spec_ckWorths.l0 k n i out ls (ls.length : Int) j = some (out ++ (ls.drop j).map (worth3 a b c)) := by
  have h3 := hg.1
  induction d with
  | zero =>
    intro k j out hj hk ho
    obtain ⟨k, rfl⟩ : ∃ m, k = m + 1 := ⟨k - 1, by omega⟩
    simp only [spec_ckWorths.l0]; rw [if_neg (by omega), List.drop_of_length_le (by omega)]; simp
  | succ d ih =>
    intro k j out hj hk ho
    obtain ⟨k, rfl⟩ : ∃ m, k = m + 1 := ⟨k - 1, by omega⟩
    have hlt : j < ls.length := by omega
    have ht := hg.2 ls[j] (List.getElem_mem hlt)
    simp only [spec_ckWorths.l0]
    rw [if_pos (by omega), if_pos (by omega), if_pos (by omega), show rd_L1 ls (j : Int) = ls[j] by simp [rd_L1, List.getD, List.getElem?_eq_getElem hlt]]
    unfold spec_ckPieces.f
    rw [hp k (by omega), Option.bind_some]
    have := pieces_l0 ls[j] ht.2 (by omega) a b c (by omega) k (by omega)
    rw [show (([(a : Int), (b : Int), (c : Int)] : List Int).length : Int) = 3 from rfl, this, Option.bind_some, if_pos (by omega), wrap_id (by omega) (by omega), show ((j : Int) + 1) = ((j + 1 : Nat) : Int) from rfl, ih k (j + 1) _ (by omega) (by omega) (by simp; omega), List.drop_eq_getElem_cons hlt, List.map_cons, List.append_assoc]
    rfl
theorem spec_worths (n i : Int) (a b c : Nat) (hp : ∀ k, 20 ≤ k → spec_meAt.f k n i = some [(a : Int), (b : Int), (c : Int)]) (ls : List (List Int)) (hg : Good (a + b + c) ls) (h8 : a + b + c ≤ 8) (k : Nat) (hk : 300 < k) : spec_ckWorths.f k n ls i = some (ls.map (worth3 a b c)) := by
  have h3 := hg.1
  unfold spec_ckWorths.f
  have := worths_l0 n i a b c hp ls hg h8 ls.length k 0 [] (by omega) (by omega) (by simp; omega)
  simpa using this
theorem worthAt_l0 (a b c : Nat) (ls : List (List Int)) (hg : Good (a + b + c) ls) (h8 : a + b + c ≤ 8) (d : Nat) : ∀ (k j : Nat) (out : List (List Int)), j + d = ls.length → d + 200 < k → out.length + d < 1000 →
    impl_worthAt.l0 k out ls (ls.length : Int) j a b c = some (out ++ (ls.drop j).map (worth3 a b c)) := by
  have h3 := hg.1
  induction d with
  | zero =>
    intro k j out hj hk ho
    obtain ⟨k, rfl⟩ : ∃ m, k = m + 1 := ⟨k - 1, by omega⟩
    simp only [impl_worthAt.l0]; rw [if_neg (by omega), List.drop_of_length_le (by omega)]; simp
  | succ d ih =>
    intro k j out hj hk ho
    obtain ⟨k, rfl⟩ : ∃ m, k = m + 1 := ⟨k - 1, by omega⟩
    have hlt : j < ls.length := by omega
    have ht := hg.2 ls[j] (List.getElem_mem hlt)
    simp only [impl_worthAt.l0]
    rw [if_pos (by omega), if_pos (by omega), if_pos (by omega), show rd_L1 ls (j : Int) = ls[j] by simp [rd_L1, List.getD, List.getElem?_eq_getElem hlt], pieces_impl ls[j] ht.2 (by omega) a b c (by omega) k (by omega), Option.bind_some, if_pos (by omega), wrap_id (by omega) (by omega), show ((j : Int) + 1) = ((j + 1 : Nat) : Int) from rfl, ih k (j + 1) _ (by omega) (by omega) (by simp; omega), List.drop_eq_getElem_cons hlt, List.map_cons, List.append_assoc]
    rfl
theorem impl_worths (a b c : Nat) (ls : List (List Int)) (hg : Good (a + b + c) ls) (h8 : a + b + c ≤ 8) (k : Nat) (hk : 300 < k) : impl_worthAt.f k ls a b c = some (ls.map (worth3 a b c)) := by
  have h3 := hg.1
  unfold impl_worthAt.f
  have := worthAt_l0 a b c ls hg h8 ls.length k 0 [] (by omega) (by omega) (by simp; omega)
  simpa using this
/-! #### rooms -/






end Go.Proofs.Ytbbkohmebjcghaa.Cake

