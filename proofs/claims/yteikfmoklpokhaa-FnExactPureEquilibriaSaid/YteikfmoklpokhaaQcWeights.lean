/- Weights of choices: the reference's check and the program's are one plain function of the greatest common divisor. -/
import Derived.Test.YteikfmoklpokhaaQcx0
import Derived.Test.YteikfmoklpokhaaQcx1
import Derived.Test.YteikfmoklpokhaaQcEqs
import Derived.Test.YteikfmoklpokhaaQcL1
namespace Go.Proofs.Yteikfmoklpokhaa.Weights
open Go.RowKit Go.Proofs.Yteikfmoklpokhaa.All Go.Proofs.Yteikfmoklpokhaa.Eqs Go.Proofs.Yteikfmoklpokhaa.L1 Go.Proofs.YteikfmoklpokhaaW.PrintWords Go.Proofs.YteikfmoklpokhaaW.PrintLast
theorem specGcd_l0 : ∀ (b a k : Nat), b < k → spec_gmGcd.l0 k (a : Int) (b : Int) = some ((Nat.gcd a b : Nat) : Int) := by
  intro b
  induction b using Nat.strongRecOn with
  | ind b ih =>
    intro a k hk
    obtain ⟨k, rfl⟩ : ∃ m, k = m + 1 := ⟨k - 1, by omega⟩
    simp only [spec_gmGcd.l0]
    by_cases h : b = 0
    · subst h; simp
    · rw [if_neg (by omega), ← Int.ofNat_tmod, ih (a % b) (Nat.mod_lt _ (by omega)) b k (by have := Nat.mod_lt a (show b > 0 by omega); omega)]
      rw [Nat.gcd_comm a b, Nat.gcd_rec b a, Nat.gcd_comm]
theorem implGcd_l0 : ∀ (b a k : Nat), b < k → impl_gcd.l0 k (a : Int) (b : Int) = some ((Nat.gcd a b : Nat) : Int) := by
  intro b
  induction b using Nat.strongRecOn with
  | ind b ih =>
    intro a k hk
    obtain ⟨k, rfl⟩ : ∃ m, k = m + 1 := ⟨k - 1, by omega⟩
    simp only [impl_gcd.l0]
    by_cases h : b = 0
    · subst h; simp
    · rw [if_neg (by omega), ← Int.ofNat_tmod, ih (a % b) (Nat.mod_lt _ (by omega)) b k (by have := Nat.mod_lt a (show b > 0 by omega); omega)]
      rw [Nat.gcd_comm a b, Nat.gcd_rec b a, Nat.gcd_comm]
/-- The common divisor of a list's numbers and a number. -/
def gAll (g : Nat) (l : List Int) : Nat := l.foldl (fun g x => Nat.gcd g x.toNat) g
theorem gAll_le (l : List Int) (hl : ∀ x ∈ l, 0 ≤ x ∧ x ≤ 1000000) : ∀ g, g ≤ 1000000 → gAll g l ≤ 1000000 := by
  induction l with
  | nil => intro g hg; exact hg
  | cons x l ih =>
    intro g hg
    show gAll (Nat.gcd g x.toNat) l ≤ _
    have hx := hl x (by simp)
    refine ih (fun y hy => hl y (by simp [hy])) _ ?_
    by_cases h : g = 0
    · subst h; simp; omega
    · exact Nat.le_trans (Nat.gcd_le_left _ (by omega)) hg
theorem specW_l0 (l : List Int) (hb : ∀ x ∈ l, 0 ≤ x ∧ x ≤ 1000000) (hl : l.length < 1152921504606846976) (d : Nat) : ∀ (k i g : Nat), i + d = l.length → g ≤ 1000000 → d + 1000001 < k → spec_gmWeights.l0 k (g : Int) l (l.length : Int) i = some (((gAll g (l.drop i) : Nat) : Int) == 1) := by
  induction d with
  | zero =>
    intro k i g hi hg hk
    obtain ⟨k, rfl⟩ : ∃ m, k = m + 1 := ⟨k - 1, by omega⟩
    simp only [spec_gmWeights.l0]
    rw [if_neg (by omega), List.drop_of_length_le (by omega)]
    rfl
  | succ d ih =>
    intro k i g hi hg hk
    obtain ⟨k, rfl⟩ : ∃ m, k = m + 1 := ⟨k - 1, by omega⟩
    have hlt : i < l.length := by omega
    have hx := hb l[i] (List.getElem_mem hlt)
    have hc : l[i] = ((l[i].toNat : Nat) : Int) := by omega
    simp only [spec_gmWeights.l0]
    rw [if_pos (by omega), if_pos (by omega), if_pos (by omega), show rd l (i : Int) = l[i] by simp [rd, List.getD, List.getElem?_eq_getElem hlt], List.drop_eq_getElem_cons hlt, hc]
    rw [show spec_gmGcd.f k ((l[i].toNat : Nat) : Int) (g : Int) = some ((Nat.gcd l[i].toNat g : Nat) : Int) from specGcd_l0 g _ k (by omega), Option.bind_some, wrap_id (by omega) (by omega)]
    have hg' : Nat.gcd l[i].toNat g ≤ 1000000 := by
      by_cases h : g = 0
      · subst h; simp; omega
      · exact Nat.le_trans (Nat.gcd_le_right _ (by omega)) hg
    have := ih k (i + 1) (Nat.gcd l[i].toNat g) (by omega) hg' (by omega)
    rw [show ((i : Int) + 1) = ((i + 1 : Nat) : Int) by omega, this]
    show some (((gAll (Nat.gcd l[i].toNat g) (l.drop (i + 1)) : Nat) : Int) == 1) = some (((gAll (Nat.gcd g (((l[i].toNat : Nat) : Int)).toNat) (l.drop (i + 1)) : Nat) : Int) == 1)
    rw [Int.toNat_natCast, Nat.gcd_comm]
theorem implW_l0 (l : List Int) (hb : ∀ x ∈ l, 0 ≤ x ∧ x ≤ 1000000) (hl : l.length < 1152921504606846976) (d : Nat) : ∀ (k i g : Nat), i + d = l.length → g ≤ 1000000 → d + 1000001 < k → impl_areWeights.l0 k (g : Int) l (l.length : Int) i = some (((gAll g (l.drop i) : Nat) : Int) == 1) := by
  induction d with
  | zero =>
    intro k i g hi hg hk
    obtain ⟨k, rfl⟩ : ∃ m, k = m + 1 := ⟨k - 1, by omega⟩
    simp only [impl_areWeights.l0]
    rw [if_neg (by omega), List.drop_of_length_le (by omega)]
    rfl
  | succ d ih =>
    intro k i g hi hg hk
    obtain ⟨k, rfl⟩ : ∃ m, k = m + 1 := ⟨k - 1, by omega⟩
    have hlt : i < l.length := by omega
    have hx := hb l[i] (List.getElem_mem hlt)
    have hc : l[i] = ((l[i].toNat : Nat) : Int) := by omega
    simp only [impl_areWeights.l0]
    rw [if_pos (by omega), if_pos (by omega), if_pos (by omega), show rd l (i : Int) = l[i] by simp [rd, List.getD, List.getElem?_eq_getElem hlt], List.drop_eq_getElem_cons hlt, hc]
    rw [show impl_gcd.f k (g : Int) ((l[i].toNat : Nat) : Int) = some ((Nat.gcd g l[i].toNat : Nat) : Int) from implGcd_l0 _ g k (by omega), Option.bind_some, wrap_id (by omega) (by omega)]
    have hg' : Nat.gcd g l[i].toNat ≤ 1000000 := by
      by_cases h : g = 0
      · subst h; simp; omega
      · exact Nat.le_trans (Nat.gcd_le_left _ (by omega)) hg
    have := ih k (i + 1) (Nat.gcd g l[i].toNat) (by omega) hg' (by omega)
    rw [show ((i : Int) + 1) = ((i + 1 : Nat) : Int) by omega, this]
    show some (((gAll (Nat.gcd g l[i].toNat) (l.drop (i + 1)) : Nat) : Int) == 1) = some (((gAll (Nat.gcd g (((l[i].toNat : Nat) : Int)).toNat) (l.drop (i + 1)) : Nat) : Int) == 1)
    rw [Int.toNat_natCast]
/-- Is a list weights for n choices? -/
def weights (l : List Int) (n : Int) : Bool := decide ((l.length : Int) = n) && (l.all (inB 0 1000000) && (((gAll 0 l : Nat) : Int) == 1))
theorem inB_iff (lo hi x : Int) : inB lo hi x = true ↔ lo ≤ x ∧ x ≤ hi := by unfold inB; simp
theorem specWeights (l : List Int) (n : Int) (hl : l.length < 1152921504606846976) (k : Nat) (hk : l.length + 1000010 < k) : spec_gmWeights.f k l n = some (weights l n) := by
  unfold spec_gmWeights.f weights
  obtain ⟨k, rfl⟩ : ∃ m, k = m + 1 := ⟨k - 1, by omega⟩
  by_cases h : (l.length : Int) = n
  · rw [if_pos h, l1All_is _ _ _ hl _ (by omega), Option.bind_some, decide_eq_true h, Bool.true_and]
    cases e : l.all (inB 0 1000000) with
    | false => rfl
    | true =>
      have hb : ∀ x ∈ l, 0 ≤ x ∧ x ≤ 1000000 := fun x hx => (inB_iff _ _ _).mp (List.all_eq_true.mp e x hx)
      simp only [spec_gmWeights.j0, Bool.not_true, Bool.false_eq_true, if_false, Bool.true_and]
      have := specW_l0 l hb hl l.length k 0 0 (by omega) (by omega) (by omega)
      simpa using this
  · rw [if_neg h, decide_eq_false h]
    rfl
theorem implWeights (l : List Int) (n : Int) (hl : l.length < 1152921504606846976) (k : Nat) (hk : l.length + 1000010 < k) : impl_areWeights.f k l n = some (weights l n) := by
  unfold impl_areWeights.f weights
  by_cases h : (l.length : Int) = n
  · rw [if_pos h, anyOut_is, decide_eq_true h, Bool.true_and]
    cases e : l.all (inB 0 1000000) with
    | false => rfl
    | true =>
      have hb : ∀ x ∈ l, 0 ≤ x ∧ x ≤ 1000000 := fun x hx => (inB_iff _ _ _).mp (List.all_eq_true.mp e x hx)
      simp only [Bool.not_true, Bool.false_eq_true, if_false, Bool.true_and]
      have := implW_l0 l hb hl l.length k 0 0 (by omega) (by omega) (by omega)
      simpa using this
  · rw [if_neg h, decide_eq_false h]
    rfl
end Go.Proofs.Yteikfmoklpokhaa.Weights

