/- The greatest number of all tastes: the reference and the program come to the same. -/
import Derived.Test.YtbbkohmebjcghaaQGx0
import Derived.Test.YtbbkohmebjcghaaQGx1
import Derived.Test.YtbbkohmebjcghaaQGCakeA
import Derived.Test.YtbbkohmebjcghaaQGCakeB
import Derived.Test.YtbbkohmebjcghaaQGCakeC
import Derived.Test.YtbbkohmebjcghaaQGCakeH
import Derived.Test.YtbbkohmebjcghaaQGEqs
import Derived.Test.YtbbkohmebjcghaaQGEqsR
namespace Go.Proofs.Ytbbkohmebjcghaa.Cake
open Go.RowKit Go.Proofs.Ytbbkohmebjcghaa.All Go.Proofs.Ytbbkohmebjcghaa.Eqs Go.Proofs.YtbbkohmebjcghaaW.PrintWords Go.Proofs.YtbbkohmebjcghaaW.PrintLast Go.Proofs.YtbbkohmebjcghaaW.PrintMore
theorem rdl_get {l : List (List Int)} {i : Nat} (h : i < l.length) : rd_L1 l (i : Int) = l[i] := by simp [rd_L1, List.getD, List.getElem?_eq_getElem h]
theorem great_l1 (rows : List (List Int)) (L : Int) (i : Int) (l : List Int) (hl : l.length ≤ 1000) (R : Int × Bool) (d : Nat) : ∀ (j : Nat) (m : Int), j + d = l.length → Ev (fun k => spec_GreatestTaste.l0 k ((l.drop j).foldl mx m) rows L (wrap64 (i + 1))) R → Ev (fun k => spec_GreatestTaste.l1 k m rows L i l (l.length : Int) j) R := by
  induction d with
  | zero =>
    intro j m hj h
    rw [List.drop_of_length_le (by omega), List.foldl_nil] at h
    exact Ev.step (fun k => by simp only [spec_GreatestTaste.l1]; rw [if_neg (by omega)]) h
  | succ d ih =>
    intro j m hj h
    have hlt : j < l.length := by omega
    rw [List.drop_eq_getElem_cons hlt, List.foldl_cons] at h
    exact Ev.step (fun k => by simp only [spec_GreatestTaste.l1]; rw [if_pos (by omega), if_pos (by omega), if_pos (by omega), rd_get l j hlt, most_is, Option.bind_some, upC (by omega)]) (ih (j + 1) _ (by omega) h)
theorem great_l0 (rows : List (List Int)) (h3 : rows.length ≤ 3) (h8 : ∀ l ∈ rows, l.length ≤ 8) (d : Nat) : ∀ (i : Nat) (m : Int), i + d = rows.length → Ev (fun k => spec_GreatestTaste.l0 k m rows (rows.length : Int) i) ((rows.drop i).flatten.foldl mx m, true) := by
  induction d with
  | zero =>
    intro i m hi
    rw [List.drop_of_length_le (by omega)]
    exact Ev.step (fun k => by simp only [spec_GreatestTaste.l0]; rw [if_neg (by omega)]) (Ev.now (m, true))
  | succ d ih =>
    intro i m hi
    have hlt : i < rows.length := by omega
    have := h8 _ (List.getElem_mem hlt)
    have h := ih (i + 1) (rows[i].foldl mx m) (by omega)
    rw [← upC (by omega)] at h
    rw [List.drop_eq_getElem_cons hlt, List.flatten_cons, List.foldl_append]
    exact Ev.step (fun k => by simp only [spec_GreatestTaste.l0]; rw [if_pos (by omega), if_pos (by omega), if_pos (by omega), rdl_get hlt]; rfl) (great_l1 rows _ i rows[i] (by omega) _ rows[i].length 0 m (by omega) h)
theorem conc_l1 (rows : List (List Int)) (h3 : rows.length ≤ 3) (h8 : ∀ l ∈ rows, l.length ≤ 8) (d : Nat) : ∀ (i : Nat) (out : List Int), i + d = rows.length → out.length ≤ 8 * i → Ev (fun k => slices_Concat_int_int.l1 k out rows (rows.length : Int) i) (out ++ (rows.drop i).flatten) := by
  induction d with
  | zero =>
    intro i out hi ho
    rw [List.drop_of_length_le (by omega), List.flatten_nil, List.append_nil]
    exact Ev.step (fun k => by simp only [slices_Concat_int_int.l1]; rw [if_neg (by omega)]) (Ev.now _)
  | succ d ih =>
    intro i out hi ho
    have hlt : i < rows.length := by omega
    have h := h8 _ (List.getElem_mem hlt)
    have g := ih (i + 1) (out ++ rows[i]) (by omega) (by simp; omega)
    rw [List.append_assoc, ← List.flatten_cons, ← List.drop_eq_getElem_cons hlt] at g
    exact Ev.step (fun k => by simp only [slices_Concat_int_int.l1]; rw [if_pos (by omega), if_pos (by omega), if_pos (by omega), rdl_get hlt, if_pos (by omega), upC (by omega)]) g
theorem conc_l0 (rows : List (List Int)) (h3 : rows.length ≤ 3) (h8 : ∀ l ∈ rows, l.length ≤ 8) (d : Nat) : ∀ (i : Nat) (s : Int), i + d = rows.length → 0 ≤ s → s ≤ 8 * i → Ev (fun k => slices_Concat_int_int.l0 k rows s rows (rows.length : Int) i) rows.flatten := by
  induction d with
  | zero =>
    intro i s hi h0 hs
    have g := conc_l1 rows h3 h8 rows.length 0 [] (by omega) (by simp)
    rw [List.nil_append, List.drop_zero] at g
    exact Ev.step (fun k => by simp only [slices_Concat_int_int.l0]; rw [if_neg (by omega), if_pos (by omega)]; rfl) g
  | succ d ih =>
    intro i s hi h0 hs
    have hlt : i < rows.length := by omega
    have h := h8 _ (List.getElem_mem hlt)
    exact Ev.step (fun k => by simp only [slices_Concat_int_int.l0]; rw [if_pos (by omega), if_pos (by omega), if_pos (by omega), rdl_get hlt, wrap_id (x := s + (rows[i].length : Int)) (by omega) (by omega), if_neg (by omega), upC (by omega)]) (ih (i + 1) (s + (rows[i].length : Int)) (by omega) (by omega) (by omega))
theorem maxi_l0 (l : List Int) (hl : l.length ≤ 1000) (d : Nat) : ∀ (j : Nat) (m : Int), j + d = l.length → Ev (fun k => slices_Max_int_int.l0 k l m j) ((l.drop j).foldl mx m) := by
  induction d with
  | zero =>
    intro j m hj
    rw [List.drop_of_length_le (by omega)]
    exact Ev.step (fun k => by simp only [slices_Max_int_int.l0]; rw [if_neg (by omega)]) (Ev.now m)
  | succ d ih =>
    intro j m hj
    have hlt : j < l.length := by omega
    rw [List.drop_eq_getElem_cons hlt, List.foldl_cons]
    exact Ev.step (fun k => by simp only [slices_Max_int_int.l0]; rw [if_pos (by omega), if_pos (by omega), rd_get l j hlt, upC (by omega)]) (ih (j + 1) _ (by omega))
theorem maxi_is (x : Int) (t : List Int) (hx : 0 ≤ x) (hl : t.length ≤ 900) : Ev (fun k => slices_Max_int_int.f k (x :: t)) ((x :: t).foldl mx 0) := by
  have g := maxi_l0 (x :: t) (by simp; omega) t.length 1 x (by simp; omega)
  rw [show ((x :: t).drop 1) = t from rfl] at g
  have e : mx 0 x = x := by unfold mx; split <;> omega
  rw [List.foldl_cons, e]
  refine Ev.congr (fun k => by unfold slices_Max_int_int.f; rw [if_neg (by simp only [List.length_cons]; omega), if_pos (by simp only [List.length_cons]; omega), show rd (x :: t) 0 = x from rfl]; rfl) g
theorem greatestTaste_same (n : Int) (ls : List (List Int)) (hs : Small ls) : ∃ r t, ∃ K, ∀ k, K ≤ k → spec_GreatestTaste.f k n ls = some (r, t) ∧ impl_GreatestTaste.f k n ls = some (r, t) := by
  have h1 : Ev (fun k => spec_ckTastes.f k n ls) (tastesOk n ls) := ⟨2097161, fun k hk => spec_tastes n ls hs k (by omega)⟩
  cases ht : tastesOk n ls with
  | false =>
    rw [ht] at h1
    refine ⟨0, false, bothC (Ev.congr (fun k => by unfold spec_GreatestTaste.f; rfl) (Ev.bind h1 ?_)) (Ev.congr (fun k => by unfold impl_GreatestTaste.f; rw [impl_tastes, ht]; rfl) (Ev.now _))⟩
    exact Ev.now _
  | true =>
    rw [ht] at h1
    obtain ⟨b1, b8, g3, hg⟩ := good_of ht
    have h8 : ∀ l ∈ ls, l.length ≤ 8 := fun l hl => by have := (hg l hl).1; omega
    have s1 := great_l0 ls (by omega) h8 ls.length 0 0 (by omega)
    have s2 := conc_l0 ls (by omega) h8 ls.length 0 0 (by omega) (by omega) (by omega)
    rw [List.drop_zero] at s1
    obtain ⟨x, t, e, hx, hlen⟩ : ∃ x t, ls.flatten = x :: t ∧ 0 ≤ x ∧ t.length ≤ 900 := by
      match ls, g3, hg with
      | [a, b, c], _, hg =>
        obtain ⟨la, ha⟩ := hg a (by simp)
        have lb := (hg b (by simp)).1
        have lc := (hg c (by simp)).1
        match a, la, ha with
        | x :: a', la, ha =>
          simp only [List.length_cons] at la
          refine ⟨x, a' ++ (b ++ c), by simp, ?_, by simp; omega⟩
          exact (in9 ha (by simp)).1
        | [], la, _ => simp at la; omega
    rw [e] at s1 s2
    refine ⟨(x :: t).foldl mx 0, true, bothC (Ev.congr (fun k => by unfold spec_GreatestTaste.f; rfl) (Ev.bind h1 (Ev.congr (fun k => by rw [if_pos rfl]; rfl) s1))) (Ev.congr (fun k => by unfold impl_GreatestTaste.f; rw [impl_tastes, ht, Option.bind_some, if_pos rfl]) (Ev.bind (Ev.congr (fun k => by unfold slices_Concat_int_int.f; rfl) s2) (Ev.bind (maxi_is x t hx hlen) ?_)))⟩
    exact Ev.now _
end Go.Proofs.Ytbbkohmebjcghaa.Cake

