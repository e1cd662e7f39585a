/- What pieces are worth, favourites, sums and envy: the reference and the program come to the same numbers. -/
import Derived.Test.YtbbkohmebjcghaaQCx0
import Derived.Test.YtbbkohmebjcghaaQCx3
import Derived.Test.YtbbkohmebjcghaaQCx1
import Derived.Test.YtbbkohmebjcghaaQCCakeBs1
import Derived.Test.YtbbkohmebjcghaaQCEqs
namespace Go.Proofs.Ytbbkohmebjcghaa.Cake
open Go.RowKit Go.Proofs.Ytbbkohmebjcghaa.All Go.Proofs.Ytbbkohmebjcghaa.Eqs Go.Proofs.YtbbkohmebjcghaaW.PrintWords Go.Proofs.YtbbkohmebjcghaaW.PrintLast Go.Proofs.YtbbkohmebjcghaaW.PrintMore

def lsum : List Int → Int
  | [] => 0
  | a :: l => a + lsum l
theorem all_take (p : Int → Bool) (l : List Int) (n : Nat) (h : l.all p = true) : (l.take n).all p = true := by
  rw [List.all_eq_true] at h ⊢
  exact fun x hx => h x (List.mem_of_mem_take hx)
theorem all_drop (p : Int → Bool) (l : List Int) (n : Nat) (h : l.all p = true) : (l.drop n).all p = true := by
  rw [List.all_eq_true] at h ⊢
  exact fun x hx => h x (List.mem_of_mem_drop hx)
theorem in9 {x : Int} {l : List Int} (ha : l.all (inB 0 9) = true) (hx : x ∈ l) : 0 ≤ x ∧ x ≤ 9 := by
  have hb := List.all_eq_true.1 ha x hx
  simpa only [inB, Bool.and_eq_true, decide_eq_true_eq] using hb

theorem sum_l0 (l : List Int) (hl : l.length ≤ 8) (ha : l.all (inB 0 9) = true) (d : Nat) : ∀ (k i : Nat) (s : Int), i + d = l.length → d < k → 0 ≤ s → s + 9 * d ≤ 1000000 → impl_sum.l0 k s l (l.length : Int) i = some (s + lsum (l.drop i)) := by
  induction d with
  | zero =>
    intro k i s hi hk h0 h1
    obtain ⟨k, rfl⟩ : ∃ m, k = m + 1 := ⟨k - 1, by omega⟩
    simp only [impl_sum.l0]; rw [if_neg (by omega), List.drop_of_length_le (by omega)]; simp [lsum]
  | succ d ih =>
    intro k i s hi hk h0 h1
    obtain ⟨k, rfl⟩ : ∃ m, k = m + 1 := ⟨k - 1, by omega⟩
    have hlt : i < l.length := by omega
    have hb := in9 ha (List.getElem_mem hlt)
    simp only [impl_sum.l0]
    rw [if_pos (by omega), if_pos (by omega), if_pos (by omega), rd_get l i hlt, wrap_id (by omega) (by omega), wrap_id (by omega) (by omega), List.drop_eq_getElem_cons hlt]
    have := ih k (i + 1) (s + l[i]) (by omega) (by omega) (by omega) (by omega)
    rw [show ((i : Int) + 1) = ((i + 1 : Nat) : Int) from rfl, this]
    simp only [lsum]; congr 1; omega
theorem sum_is (l : List Int) (hl : l.length ≤ 8) (ha : l.all (inB 0 9) = true) (k : Nat) (hk : 8 < k) : impl_sum.f k l = some (lsum l) := by
  unfold impl_sum.f
  have := sum_l0 l hl ha l.length k 0 0 (by omega) (by omega) (by omega) (by omega)
  simpa using this
/-- What size slices from at on are worth. -/
def seg (t : List Int) (a s : Nat) : Int := lsum ((t.drop a).take s)
theorem seg_succ (t : List Int) (a s : Nat) (h : a < t.length) : seg t a (s + 1) = t[a] + seg t (a + 1) s := by
  unfold seg
  rw [List.drop_eq_getElem_cons h, List.take_succ_cons]; rfl
theorem seg_bound (t : List Int) (ha : t.all (inB 0 9) = true) : ∀ (s a : Nat), a + s ≤ t.length → 0 ≤ seg t a s ∧ seg t a s ≤ 9 * s
  | 0, a, _ => by simp [seg, lsum]
  | s + 1, a, h => by
    have hlt : a < t.length := by omega
    have h1 := seg_bound t ha s (a + 1) (by omega)
    have h2 := in9 ha (List.getElem_mem hlt)
    rw [seg_succ t a s hlt]; omega
theorem pieces_impl (t : List Int) (ha : t.all (inB 0 9) = true) (hl : t.length ≤ 8) (a b c : Nat) (hs : a + b + c = t.length) (k : Nat) (hk : 8 < k) :
    impl_piecesOf.f k t a b c = some [seg t 0 a, seg t a b, seg t (a + b) c] := by
  unfold impl_piecesOf.f
  have e1 : wrap64 ((a : Int) + (b : Int)) = ((a + b : Nat) : Int) := wrap_id (by omega) (by omega)
  rw [e1, if_pos (by omega), if_pos (by omega)]
  simp only [Int.toNat_natCast]
  rw [sum_is _ (by simp; omega) (all_take _ _ _ ha) k hk, Option.bind_some, if_pos (by omega), if_pos (by omega), sum_is _ (by simp; omega) (all_drop _ _ _ (all_take _ _ _ ha)) k hk, Option.bind_some, if_pos (by omega), sum_is _ (by simp; omega) (all_drop _ _ _ ha) k hk, Option.bind_some]
  unfold seg
  rw [List.drop_zero, List.drop_take, show a + b - a = b by omega, List.take_of_length_le (l := t.drop (a + b)) (by simp; omega)]
theorem pieces_l1 (t : List Int) (ha : t.all (inB 0 9) = true) (p : List Int) (kk : Nat) (hkk : kk < 3) (k' : Nat) : ∀ (s a : Nat) (out : List Int), out.length = 3 → a + s ≤ t.length → t.length ≤ 8 → 0 ≤ out.getD kk 0 → out.getD kk 0 + 9 * s ≤ 1000000 →
    spec_ckPieces.l1 (s + 1 + k') t out a kk s p 3 kk = spec_ckPieces.l0 k' t (out.set kk (out.getD kk 0 + seg t a s)) ((a + s : Nat) : Int) p 3 ((kk + 1 : Nat) : Int)
  | 0, a, out, h3, hle, h8, h0, h1 => by
    rw [show 0 + 1 + k' = k' + 1 by omega]
    simp only [spec_ckPieces.l1]
    rw [if_neg (by omega), wrap_id (by omega) (by omega)]
    congr 1
    simp only [seg, List.take_zero, lsum, Int.add_zero]
    apply List.ext_getElem?
    intro j
    by_cases e : kk = j
    · subst e; rw [List.getElem?_set_self (by omega)]; simp [List.getD, List.getElem?_eq_getElem (show kk < out.length by omega)]
    · rw [List.getElem?_set_ne e]
  | s + 1, a, out, h3, hle, h8, h0, h1 => by
    have hlt : a < t.length := by omega
    have hb := in9 ha (List.getElem_mem hlt)
    rw [show s + 1 + 1 + k' = (s + 1 + k') + 1 by omega]
    simp only [spec_ckPieces.l1]
    have f1 : rd out (kk : Int) = out.getD kk 0 := rfl
    rw [if_pos (by omega), if_pos (by omega), if_pos (by omega), if_pos (by omega), if_pos (by omega), f1, rd_get t a hlt, wrap_id (by omega) (by omega), wrap_id (by omega) (by omega), wrap_id (by omega) (by omega), show ((kk : Int)).toNat = kk from rfl, show (((s + 1 : Nat) : Int) - 1) = (s : Int) by omega, show ((a : Int) + 1) = ((a + 1 : Nat) : Int) from rfl]
    have hg : (out.set kk (out.getD kk 0 + t[a])).getD kk 0 = out.getD kk 0 + t[a] := by simp [List.getD, List.getElem?_set_self (show kk < out.length by omega)]
    have := pieces_l1 t ha p kk hkk k' s (a + 1) (out.set kk (out.getD kk 0 + t[a])) (by simpa using h3) (by omega) h8 (by rw [hg]; omega) (by rw [hg]; omega)
    rw [this, hg, List.set_set, seg_succ t a s hlt, show a + 1 + s = a + (s + 1) by omega]
    congr 2; omega
theorem pieces_l0 (t : List Int) (ha : t.all (inB 0 9) = true) (hl : t.length ≤ 8) (a b c : Nat) (hs : a + b + c = t.length) (k : Nat) (hk : 100 < k) :
    spec_ckPieces.l0 k t [0, 0, 0] 0 [(a : Int), (b : Int), (c : Int)] 3 0 = some [seg t 0 a, seg t a b, seg t (a + b) c] := by
  obtain ⟨k', rfl⟩ : ∃ m, k = (a + 1 + ((b + 1 + ((c + 1 + (m + 1)) + 1)) + 1)) + 1 := ⟨k - (a + b + c + 7), by omega⟩
  simp only [spec_ckPieces.l0]
  rw [if_pos (by omega), if_pos (by omega), if_pos (by simp), show rd [(a : Int), (b : Int), (c : Int)] 0 = (a : Int) from rfl]
  have h1 := pieces_l1 t ha [(a : Int), (b : Int), (c : Int)] 0 (by omega) ((b + 1 + ((c + 1 + (k' + 1)) + 1)) + 1) a 0 [0, 0, 0] rfl (by omega) hl (by simp) (by simp; omega)
  have hs0 := seg_bound t ha a 0 (by omega)
  have hs1 := seg_bound t ha b a (by omega)
  simp only [Int.natCast_zero] at h1
  rw [h1]
  simp only [List.getD_cons_zero, List.set_cons_zero, Int.zero_add, Nat.zero_add, spec_ckPieces.l0]
  rw [if_pos (by omega), if_pos (by omega), if_pos (by simp), show rd [(a : Int), (b : Int), (c : Int)] ((1 : Nat) : Int) = (b : Int) from rfl]
  have h2 := pieces_l1 t ha [(a : Int), (b : Int), (c : Int)] 1 (by omega) ((c + 1 + (k' + 1)) + 1) b a [seg t 0 a, 0, 0] rfl (by omega) hl (by simp) (by simp; omega)
  rw [h2]
  simp only [List.getD_cons_succ, List.getD_cons_zero, List.set_cons_succ, List.set_cons_zero, Int.zero_add, spec_ckPieces.l0]
  rw [if_pos (by omega), if_pos (by omega), if_pos (by simp), show rd [(a : Int), (b : Int), (c : Int)] ((1 + 1 : Nat) : Int) = (c : Int) from rfl]
  have h3 := pieces_l1 t ha [(a : Int), (b : Int), (c : Int)] 2 (by omega) (k' + 1) c (a + b) [seg t 0 a, seg t a b, 0] rfl (by omega) hl (by simp) (by simp; omega)
  rw [show ((1 + 1 : Nat) : Int) = ((2 : Nat) : Int) from rfl, h3]
  simp only [List.getD_cons_succ, List.getD_cons_zero, List.set_cons_succ, List.set_cons_zero, Int.zero_add, spec_ckPieces.l0]
  rw [if_neg (by omega)]
/-! #### envy -/



end Go.Proofs.Ytbbkohmebjcghaa.Cake

