/- Triangles, tastes, rooms and pieces: the reference's checks and the program's are the same plain functions. -/
import Derived.Test.YtbbkohmebjcghaaQax0
import Derived.Test.YtbbkohmebjcghaaQax1
import Derived.Test.YtbbkohmebjcghaaQax3
import Derived.Test.YtbbkohmebjcghaaQax4
import Derived.Test.YtbbkohmebjcghaaQax5
import Derived.Test.YtbbkohmebjcghaaQax2
import Derived.Test.YtbbkohmebjcghaaQaBase
/-! ### CakeA -/
section
namespace Go.Proofs.Ytbbkohmebjcghaa.Cake
open Go.RowKit Go.Proofs.Ytbbkohmebjcghaa.All Go.Proofs.Ytbbkohmebjcghaa.Eqs Go.Proofs.YtbbkohmebjcghaaW.PrintWords Go.Proofs.YtbbkohmebjcghaaW.PrintLast

/-! #### points -/
def ptCheck (n : Int) : Bool := match impl_points.f 100 n with
  | some ps => decide ((ps.length : Int) = wrap64 (Int.tdiv (wrap64 ((wrap64 (n + 1)) * (wrap64 (n + 2)))) 2)) && (decide (ps.length ≤ 45) && (List.range ps.length).all fun i =>
      let p := rd_T54 ps i
      (spec_meAt.f 20 n i == some [p.f0, p.f1, p.f2]) && (decide (0 ≤ p.f0) && (decide (0 ≤ p.f1) && (decide (0 ≤ p.f2) && decide (p.f0 + p.f1 + p.f2 = n)))))
  | none => false
theorem ptAll : ∀ i : Fin 8, ptCheck ((i.val : Int) + 1) = true := by decide +kernel
/-- The number of points. -/
def cnt (n : Int) : Int := wrap64 (Int.tdiv (wrap64 ((wrap64 (n + 1)) * (wrap64 (n + 2)))) 2)
theorem pts (n : Int) (h1 : 1 ≤ n) (h8 : n ≤ 8) : ∃ ps : List S54, (∀ k, 100 ≤ k → impl_points.f k n = some ps) ∧ (ps.length : Int) = cnt n ∧ ps.length ≤ 45 ∧ ∀ i : Nat, i < ps.length → (∀ k, 20 ≤ k → spec_meAt.f k n i = some [(rd_T54 ps i).f0, (rd_T54 ps i).f1, (rd_T54 ps i).f2]) ∧ 0 ≤ (rd_T54 ps i).f0 ∧ 0 ≤ (rd_T54 ps i).f1 ∧ 0 ≤ (rd_T54 ps i).f2 ∧ (rd_T54 ps i).f0 + (rd_T54 ps i).f1 + (rd_T54 ps i).f2 = n := by
  have hc := ptAll ⟨(n - 1).toNat, by omega⟩
  rw [show (((⟨(n - 1).toNat, by omega⟩ : Fin 8).val : Int) + 1) = n by simp only; omega] at hc
  unfold ptCheck at hc
  split at hc
  · rename_i ps hps
    simp only [Bool.and_eq_true, decide_eq_true_eq, List.all_eq_true, List.mem_range, beq_iff_eq] at hc
    obtain ⟨h2, h3, h4⟩ := hc
    refine ⟨ps, fun k hk => at_rounds (impl_points.mono n) hk hps, h2, h3, fun i hi => ?_⟩
    obtain ⟨e, a, b, c, d⟩ := h4 i hi
    exact ⟨fun k hk => at_rounds (spec_meAt.mono n i) hk e, a, b, c, d⟩
  · exact absurd hc (by simp)
theorem cnt_nonneg (n : Int) (h1 : 1 ≤ n) (h8 : n ≤ 8) : 3 ≤ cnt n ∧ cnt n ≤ 45 := by
  have : n = 1 ∨ n = 2 ∨ n = 3 ∨ n = 4 ∨ n = 5 ∨ n = 6 ∨ n = 7 ∨ n = 8 := by omega
  rcases this with rfl | rfl | rfl | rfl | rfl | rfl | rfl | rfl <;> decide +kernel
/-! #### checks of numbers -/
theorem l1In_is (x lo hi : Int) : spec_l1In.f x lo hi = some (inB lo hi x) := by
  unfold spec_l1In.f inB
  by_cases h : lo ≤ x <;> simp [h]
theorem range_any {α : Type} (p : α → Bool) (z : α) (l : List α) : ∀ i d, i + d = l.length → ((List.range' i d).any fun j => p (l.getD j z)) = (l.drop i).any p
  | i, 0, h => by rw [List.drop_of_length_le (by omega)]; rfl
  | i, d + 1, h => by
    have hi : i < l.length := by omega
    rw [List.range'_succ, List.any_cons, range_any p z l (i + 1) d (by omega), List.drop_eq_getElem_cons hi, List.any_cons]
    simp [List.getD, List.getElem?_eq_getElem hi]
theorem any_not_all {α : Type} (p : α → Bool) (l : List α) : (l.any fun x => !p x) = !(l.all p) := by
  induction l with
  | nil => rfl
  | cons a l ih => rw [List.any_cons, List.all_cons, ih]; cases p a <;> simp
theorem anyOut_is (lo hi : Int) (l : List Int) : anyOut lo hi l = !(l.all (inB lo hi)) := by
  unfold anyOut
  rw [range_any (fun x => !inB lo hi x) 0 l 0 l.length (by omega), List.drop_zero, any_not_all]
theorem all_l0 (lo hi : Int) (l : List Int) (hl : l.length < 1152921504606846976) (d : Nat) : ∀ (k i : Nat), i + d = l.length → d < k → spec_l1All.l0 k lo hi l (l.length : Int) i = some ((l.drop i).all (inB lo hi)) := by
  induction d with
  | zero =>
    intro k i hi' hk
    obtain ⟨k, rfl⟩ : ∃ m, k = m + 1 := ⟨k - 1, by omega⟩
    simp only [spec_l1All.l0]; rw [if_neg (by omega), List.drop_of_length_le (by omega)]; rfl
  | succ d ih =>
    intro k i hi' hk
    obtain ⟨k, rfl⟩ : ∃ m, k = m + 1 := ⟨k - 1, by omega⟩
    have hlt : i < l.length := by omega
    simp only [spec_l1All.l0]
    rw [if_pos (by omega), if_pos (by omega), if_pos (by omega), l1In_is, Option.bind_some, List.drop_eq_getElem_cons hlt, List.all_cons, show rd l (i : Int) = l[i] by simp [rd, List.getD, List.getElem?_eq_getElem hlt]]
    cases h : inB lo hi l[i] with
    | false => rw [if_neg (by decide)]; rfl
    | true => rw [if_pos rfl, wrap_id (by omega) (by omega)]; simpa using ih k (i + 1) (by omega) (by omega)
theorem l1All_is (lo hi : Int) (l : List Int) (hl : l.length < 1152921504606846976) (k : Nat) (hk : l.length < k) : spec_l1All.f k l lo hi = some (l.all (inB lo hi)) := by
  unfold spec_l1All.f
  have := all_l0 lo hi l hl l.length k 0 (by omega) hk
  simpa using this
/-- Three lists of so many numbers in 0..most. -/
def three (many most : Int) (ls : List (List Int)) : Bool := decide ((ls.length : Int) = 3) && ls.all fun l => decide ((l.length : Int) = many) && l.all (inB 0 most)
theorem badList_is (many most : Int) (l : List Int) : badList many most l = !(decide ((l.length : Int) = many) && l.all (inB 0 most)) := by
  unfold badList
  rw [anyOut_is]
  by_cases h : (l.length : Int) = many <;> simp [h]
theorem areLists_is (many most : Int) (ls : List (List Int)) : impl_areLists.f ls many most = some (three many most ls) := by
  unfold impl_areLists.f three anyBad
  by_cases h : (ls.length : Int) = 3
  · rw [if_pos h, range_any (badList many most) [] ls 0 ls.length (by omega), List.drop_zero, decide_eq_true h, Bool.true_and]
    have : (ls.any (badList many most)) = ls.any fun l => !(decide ((l.length : Int) = many) && l.all (inB 0 most)) := by
      congr 1; funext l; exact badList_is many most l
    rw [this, any_not_all]; simp
  · rw [if_neg h, decide_eq_false h]; rfl
theorem tastes_l0 (n : Int) (ls : List (List Int)) (hs : Small ls) (d : Nat) : ∀ (k i : Nat), i + d = ls.length → d + 1048578 < k → spec_ckTastes.l0 k n ls (ls.length : Int) i = some ((ls.drop i).all fun l => decide ((l.length : Int) = n) && l.all (inB 0 9)) := by
  have hl := hs.1
  induction d with
  | zero =>
    intro k i hi hk
    obtain ⟨k, rfl⟩ : ∃ m, k = m + 1 := ⟨k - 1, by omega⟩
    simp only [spec_ckTastes.l0]; rw [if_neg (by omega), List.drop_of_length_le (by omega)]; rfl
  | succ d ih =>
    intro k i hi hk
    obtain ⟨k, rfl⟩ : ∃ m, k = m + 1 := ⟨k - 1, by omega⟩
    have hlt : i < ls.length := by omega
    have e : rd_L1 ls (i : Int) = ls[i] := by simp [rd_L1, List.getD, List.getElem?_eq_getElem hlt]
    have hx := hs.2 ls[i] (List.getElem_mem hlt)
    simp only [spec_ckTastes.l0]
    rw [if_pos (by omega), if_pos (by omega), if_pos (by omega), e, List.drop_eq_getElem_cons hlt, List.all_cons]
    by_cases h : (ls[i].length : Int) = n
    · rw [if_pos h, l1All_is _ _ _ (by omega) k (by omega), Option.bind_some, decide_eq_true h, Bool.true_and]
      cases h2 : ls[i].all (inB 0 9) with
      | false => rw [if_neg (by decide)]; rfl
      | true => rw [if_pos rfl, wrap_id (by omega) (by omega)]; simpa using ih k (i + 1) (by omega) (by omega)
    · rw [if_neg h, decide_eq_false h]; rfl
/-- Tastes for a side. -/
def tastesOk (n : Int) (ls : List (List Int)) : Bool := inB 1 8 n && three n 9 ls
theorem spec_tastes (n : Int) (ls : List (List Int)) (hs : Small ls) (k : Nat) (hk : 2097160 < k) : spec_ckTastes.f k n ls = some (tastesOk n ls) := by
  have hl := hs.1
  unfold spec_ckTastes.f spec_meSide.f tastesOk three
  rw [l1In_is]
  simp only [Option.bind_some]
  obtain ⟨k, rfl⟩ : ∃ m, k = m + 1 := ⟨k - 1, by omega⟩
  cases h : inB 1 8 n with
  | false => rw [if_neg (by decide)]; simp [spec_ckTastes.j0]
  | true =>
    rw [if_pos rfl]
    simp only [spec_ckTastes.j0]
    by_cases h3 : (ls.length : Int) = 3
    · rw [show ((ls.length : Int) != 3) = false from bne_eq_false_iff_eq.mpr h3, if_neg (by decide), decide_eq_true h3]
      have := tastes_l0 n ls hs ls.length k 0 (by omega) (by omega)
      rw [show ((0 : Int)) = ((0 : Nat) : Int) from rfl, this]
      simp
    · rw [show ((ls.length : Int) != 3) = true from bne_iff_ne.mpr h3, if_pos rfl, decide_eq_false h3]; simp
theorem impl_tastes (n : Int) (ls : List (List Int)) : impl_areTastes.f n ls = some (tastesOk n ls) := by
  unfold impl_areTastes.f impl_isSide.f tastesOk
  rw [in_is, areLists_is]
  simp only [Option.bind_some]
  cases inB 1 8 n <;> simp
/-- A point of a side. -/
def isPt (n i : Int) : Bool := inB 1 8 n && inB 0 (wrap64 (cnt n - 1)) i
theorem spec_point (n i : Int) : spec_mePoint.f n i = some (isPt n i) := by
  unfold spec_mePoint.f spec_meSide.f spec_meCount.f isPt cnt
  rw [l1In_is]
  simp only [Option.bind_some]
  cases inB 1 8 n with
  | false => rfl
  | true => rw [if_pos rfl, l1In_is]; simp
theorem impl_point (n i : Int) : impl_isPoint.f n [i] = some (isPt n i) := by
  unfold impl_isPoint.f impl_isSide.f impl_many.f isPt cnt
  rw [in_is]
  simp only [Option.bind_some]
  cases inB 1 8 n with
  | false => rfl
  | true => rw [if_pos rfl, anyOut_is]; simp
theorem pt_bounds {n i : Int} (h : isPt n i = true) : 1 ≤ n ∧ n ≤ 8 ∧ 0 ≤ i ∧ i < cnt n := by
  unfold isPt inB at h
  simp only [Bool.and_eq_true, decide_eq_true_eq] at h
  obtain ⟨⟨h1, h2⟩, h3, h4⟩ := h
  have := cnt_nonneg n h1 h2
  rw [wrap_id (by omega) (by omega)] at h4
  exact ⟨h1, h2, h3, by omega⟩
/-! #### pieces for people -/
end Go.Proofs.Ytbbkohmebjcghaa.Cake
end
/-! ### CakeB -/
section
namespace Go.Proofs.Ytbbkohmebjcghaa.Cake
open Go.RowKit Go.Proofs.Ytbbkohmebjcghaa.All Go.Proofs.Ytbbkohmebjcghaa.Eqs Go.Proofs.YtbbkohmebjcghaaW.PrintWords Go.Proofs.YtbbkohmebjcghaaW.PrintLast Go.Proofs.YtbbkohmebjcghaaW.PrintMore

def lsum : List Int → Int
  | [] => 0
  | a :: l => a + lsum l
theorem all_take (p : Int → Bool) (l : List Int) (n : Nat) (h : l.all p = true) : (l.take n).all p = true := by
  rw [List.all_eq_true] at h ⊢
  exact fun x hx => h x (List.mem_of_mem_take hx)
theorem all_drop (p : Int → Bool) (l : List Int) (n : Nat) (h : l.all p = true) : (l.drop n).all p = true := by
  rw [List.all_eq_true] at h ⊢
  exact fun x hx => h x (List.mem_of_mem_drop hx)
theorem in9 {x : Int} {l : List Int} (ha : l.all (inB 0 9) = true) (hx : x ∈ l) : 0 ≤ x ∧ x ≤ 9 := by
  have hb := List.all_eq_true.1 ha x hx
  simpa only [inB, Bool.and_eq_true, decide_eq_true_eq] using hb
theorem rd_get (l : List Int) (i : Nat) (h : i < l.length) : rd l (i : Int) = l[i] := by simp [rd, List.getD, List.getElem?_eq_getElem h]
theorem sum_l0 (l : List Int) (hl : l.length ≤ 8) (ha : l.all (inB 0 9) = true) (d : Nat) : ∀ (k i : Nat) (s : Int), i + d = l.length → d < k → 0 ≤ s → s + 9 * d ≤ 1000000 → impl_sum.l0 k s l (l.length : Int) i = some (s + lsum (l.drop i)) := by
  induction d with
  | zero =>
    intro k i s hi hk h0 h1
    obtain ⟨k, rfl⟩ : ∃ m, k = m + 1 := ⟨k - 1, by omega⟩
    simp only [impl_sum.l0]; rw [if_neg (by omega), List.drop_of_length_le (by omega)]; simp [lsum]
  | succ d ih =>
    intro k i s hi hk h0 h1
    obtain ⟨k, rfl⟩ : ∃ m, k = m + 1 := ⟨k - 1, by omega⟩
    have hlt : i < l.length := by omega
    have hb := in9 ha (List.getElem_mem hlt)
    simp only [impl_sum.l0]
    rw [if_pos (by omega), if_pos (by omega), if_pos (by omega), rd_get l i hlt, wrap_id (by omega) (by omega), wrap_id (by omega) (by omega), List.drop_eq_getElem_cons hlt]
    have := ih k (i + 1) (s + l[i]) (by omega) (by omega) (by omega) (by omega)
    rw [show ((i : Int) + 1) = ((i + 1 : Nat) : Int) from rfl, this]
    simp only [lsum]; congr 1; omega
theorem sum_is (l : List Int) (hl : l.length ≤ 8) (ha : l.all (inB 0 9) = true) (k : Nat) (hk : 8 < k) : impl_sum.f k l = some (lsum l) := by
  unfold impl_sum.f
  have := sum_l0 l hl ha l.length k 0 0 (by omega) (by omega) (by omega) (by omega)
  simpa using this
/-- What size slices from at on are worth. -/
def seg (t : List Int) (a s : Nat) : Int := lsum ((t.drop a).take s)
theorem seg_succ (t : List Int) (a s : Nat) (h : a < t.length) : seg t a (s + 1) = t[a] + seg t (a + 1) s := by
  unfold seg
  rw [List.drop_eq_getElem_cons h, List.take_succ_cons]; rfl
theorem seg_bound (t : List Int) (ha : t.all (inB 0 9) = true) : ∀ (s a : Nat), a + s ≤ t.length → 0 ≤ seg t a s ∧ seg t a s ≤ 9 * s
  | 0, a, _ => by simp [seg, lsum]
  | s + 1, a, h => by
    have hlt : a < t.length := by omega
    have h1 := seg_bound t ha s (a + 1) (by omega)
    have h2 := in9 ha (List.getElem_mem hlt)
    rw [seg_succ t a s hlt]; omega
theorem pieces_impl (t : List Int) (ha : t.all (inB 0 9) = true) (hl : t.length ≤ 8) (a b c : Nat) (hs : a + b + c = t.length) (k : Nat) (hk : 8 < k) :
    impl_piecesOf.f k t a b c = some [seg t 0 a, seg t a b, seg t (a + b) c] := by
  unfold impl_piecesOf.f
  have e1 : wrap64 ((a : Int) + (b : Int)) = ((a + b : Nat) : Int) := wrap_id (by omega) (by omega)
  rw [e1, if_pos (by omega), if_pos (by omega)]
  simp only [Int.toNat_natCast]
  rw [sum_is _ (by simp; omega) (all_take _ _ _ ha) k hk, Option.bind_some, if_pos (by omega), if_pos (by omega), sum_is _ (by simp; omega) (all_drop _ _ _ (all_take _ _ _ ha)) k hk, Option.bind_some, if_pos (by omega), sum_is _ (by simp; omega) (all_drop _ _ _ ha) k hk, Option.bind_some]
  unfold seg
  rw [List.drop_zero, List.drop_take, show a + b - a = b by omega, List.take_of_length_le (l := t.drop (a + b)) (by simp; omega)]
theorem pieces_l1 (t : List Int) (ha : t.all (inB 0 9) = true) (p : List Int) (kk : Nat) (hkk : kk < 3) (k' : Nat) : ∀ (s a : Nat) (out : List Int), out.length = 3 → a + s ≤ t.length → t.length ≤ 8 → 0 ≤ out.getD kk 0 → out.getD kk 0 + 9 * s ≤ 1000000 →
    spec_ckPieces.l1 (s + 1 + k') t out a kk s p 3 kk = spec_ckPieces.l0 k' t (out.set kk (out.getD kk 0 + seg t a s)) ((a + s : Nat) : Int) p 3 ((kk + 1 : Nat) : Int)
  | 0, a, out, h3, hle, h8, h0, h1 => by
    rw [show 0 + 1 + k' = k' + 1 by omega]
    simp only [spec_ckPieces.l1]
    rw [if_neg (by omega), wrap_id (by omega) (by omega)]
    congr 1
    simp only [seg, List.take_zero, lsum, Int.add_zero]
    apply List.ext_getElem?
    intro j
    by_cases e : kk = j
    · subst e; rw [List.getElem?_set_self (by omega)]; simp [List.getD, List.getElem?_eq_getElem (show kk < out.length by omega)]
    · rw [List.getElem?_set_ne e]
  | s + 1, a, out, h3, hle, h8, h0, h1 => by
    have hlt : a < t.length := by omega
    have hb := in9 ha (List.getElem_mem hlt)
    rw [show s + 1 + 1 + k' = (s + 1 + k') + 1 by omega]
    simp only [spec_ckPieces.l1]
    have f1 : rd out (kk : Int) = out.getD kk 0 := rfl
    rw [if_pos (by omega), if_pos (by omega), if_pos (by omega), if_pos (by omega), if_pos (by omega), f1, rd_get t a hlt, wrap_id (by omega) (by omega), wrap_id (by omega) (by omega), wrap_id (by omega) (by omega), show ((kk : Int)).toNat = kk from rfl, show (((s + 1 : Nat) : Int) - 1) = (s : Int) by omega, show ((a : Int) + 1) = ((a + 1 : Nat) : Int) from rfl]
    have hg : (out.set kk (out.getD kk 0 + t[a])).getD kk 0 = out.getD kk 0 + t[a] := by simp [List.getD, List.getElem?_set_self (show kk < out.length by omega)]
    have := pieces_l1 t ha p kk hkk k' s (a + 1) (out.set kk (out.getD kk 0 + t[a])) (by simpa using h3) (by omega) h8 (by rw [hg]; omega) (by rw [hg]; omega)
    rw [this, hg, List.set_set, seg_succ t a s hlt, show a + 1 + s = a + (s + 1) by omega]
    congr 2; omega
theorem pieces_l0 (t : List Int) (ha : t.all (inB 0 9) = true) (hl : t.length ≤ 8) (a b c : Nat) (hs : a + b + c = t.length) (k : Nat) (hk : 100 < k) :
    spec_ckPieces.l0 k t [0, 0, 0] 0 [(a : Int), (b : Int), (c : Int)] 3 0 = some [seg t 0 a, seg t a b, seg t (a + b) c] := by
  obtain ⟨k', rfl⟩ : ∃ m, k = (a + 1 + ((b + 1 + ((c + 1 + (m + 1)) + 1)) + 1)) + 1 := ⟨k - (a + b + c + 7), by omega⟩
  simp only [spec_ckPieces.l0]
  rw [if_pos (by omega), if_pos (by omega), if_pos (by simp), show rd [(a : Int), (b : Int), (c : Int)] 0 = (a : Int) from rfl]
  have h1 := pieces_l1 t ha [(a : Int), (b : Int), (c : Int)] 0 (by omega) ((b + 1 + ((c + 1 + (k' + 1)) + 1)) + 1) a 0 [0, 0, 0] rfl (by omega) hl (by simp) (by simp; omega)
  have hs0 := seg_bound t ha a 0 (by omega)
  have hs1 := seg_bound t ha b a (by omega)
  simp only [Int.natCast_zero] at h1
  rw [h1]
  simp only [List.getD_cons_zero, List.set_cons_zero, Int.zero_add, Nat.zero_add, spec_ckPieces.l0]
  rw [if_pos (by omega), if_pos (by omega), if_pos (by simp), show rd [(a : Int), (b : Int), (c : Int)] ((1 : Nat) : Int) = (b : Int) from rfl]
  have h2 := pieces_l1 t ha [(a : Int), (b : Int), (c : Int)] 1 (by omega) ((c + 1 + (k' + 1)) + 1) b a [seg t 0 a, 0, 0] rfl (by omega) hl (by simp) (by simp; omega)
  rw [h2]
  simp only [List.getD_cons_succ, List.getD_cons_zero, List.set_cons_succ, List.set_cons_zero, Int.zero_add, spec_ckPieces.l0]
  rw [if_pos (by omega), if_pos (by omega), if_pos (by simp), show rd [(a : Int), (b : Int), (c : Int)] ((1 + 1 : Nat) : Int) = (c : Int) from rfl]
  have h3 := pieces_l1 t ha [(a : Int), (b : Int), (c : Int)] 2 (by omega) (k' + 1) c (a + b) [seg t 0 a, seg t a b, 0] rfl (by omega) hl (by simp) (by simp; omega)
  rw [show ((1 + 1 : Nat) : Int) = ((2 : Nat) : Int) from rfl, h3]
  simp only [List.getD_cons_succ, List.getD_cons_zero, List.set_cons_succ, List.set_cons_zero, Int.zero_add, spec_ckPieces.l0]
  rw [if_neg (by omega)]
/-! #### envy -/
end Go.Proofs.Ytbbkohmebjcghaa.Cake
end
/-! ### CakeC -/
section
namespace Go.Proofs.Ytbbkohmebjcghaa.Cake
open Go.RowKit Go.Proofs.Ytbbkohmebjcghaa.All Go.Proofs.Ytbbkohmebjcghaa.Eqs Go.Proofs.YtbbkohmebjcghaaW.PrintWords Go.Proofs.YtbbkohmebjcghaaW.PrintLast Go.Proofs.YtbbkohmebjcghaaW.PrintMore
def worth3 (a b c : Nat) (t : List Int) : List Int := [seg t 0 a, seg t a b, seg t (a + b) c]
/-- Good tastes: three lists of n numbers in 0..9. -/
def Good (n : Nat) (ls : List (List Int)) : Prop := ls.length = 3 ∧ ∀ t ∈ ls, t.length = n ∧ t.all (inB 0 9) = true
theorem good_of {n : Int} {ls : List (List Int)} (h : tastesOk n ls = true) : 1 ≤ n ∧ n ≤ 8 ∧ Good n.toNat ls := by
  unfold tastesOk three inB at h
  simp only [Bool.and_eq_true, decide_eq_true_eq, List.all_eq_true] at h
  obtain ⟨⟨h1, h2⟩, h3, h4⟩ := h
  refine ⟨h1, h2, by omega, fun t ht => ⟨by have := (h4 t ht).1; omega, List.all_eq_true.2 fun x hx => ?_⟩⟩
  have := (h4 t ht).2 x hx
  simpa only [inB, Bool.and_eq_true, decide_eq_true_eq] using this
/-! #### rooms -/
end Go.Proofs.Ytbbkohmebjcghaa.Cake
end
/-! ### CakeD -/
section
namespace Go.Proofs.Ytbbkohmebjcghaa.Cake
open Go.RowKit Go.Proofs.Ytbbkohmebjcghaa.All Go.Proofs.Ytbbkohmebjcghaa.Eqs Go.Proofs.YtbbkohmebjcghaaW.PrintWords Go.Proofs.YtbbkohmebjcghaaW.PrintLast Go.Proofs.YtbbkohmebjcghaaW.PrintMore
/-- Three lists of three. -/
def Three (ws : List (List Int)) : Prop := ws.length = 3 ∧ ∀ i : Int, 0 ≤ i → i < 3 → (rd_L1 ws i).length = 3
/-- A point's three numbers. -/
theorem point_is {n i : Int} (h : isPt n i = true) : ∃ (ps : List S54) (a b c : Nat), (∀ k, 100 ≤ k → impl_points.f k n = some ps) ∧ i < (ps.length : Int) ∧ (rd_T54 ps i).f0 = a ∧ (rd_T54 ps i).f1 = b ∧ (rd_T54 ps i).f2 = c ∧ (∀ k, 20 ≤ k → spec_meAt.f k n i = some [(a : Int), (b : Int), (c : Int)]) ∧ (a : Int) + b + c = n := by
  obtain ⟨h1, h8, h0, hlt⟩ := pt_bounds h
  obtain ⟨ps, hp, hl, _, hpt⟩ := pts n h1 h8
  obtain ⟨e, p0, p1, p2, ps'⟩ := hpt i.toNat (by omega)
  rw [show ((i.toNat : Nat) : Int) = i by omega] at e p0 p1 p2 ps'
  exact ⟨ps, (rd_T54 ps i).f0.toNat, (rd_T54 ps i).f1.toNat, (rd_T54 ps i).f2.toNat, hp, by omega, by omega, by omega, by omega, fun k hk => by rw [e k hk]; congr 1; simp only [List.cons.injEq, and_true]; omega, by omega⟩
end Go.Proofs.Ytbbkohmebjcghaa.Cake
end
/-! ### CakeF -/
section
namespace Go.Proofs.Ytbbkohmebjcghaa.Cake
open Go.RowKit Go.Proofs.Ytbbkohmebjcghaa.All Go.Proofs.Ytbbkohmebjcghaa.Eqs Go.Proofs.YtbbkohmebjcghaaW.PrintWords Go.Proofs.YtbbkohmebjcghaaW.PrintLast Go.Proofs.YtbbkohmebjcghaaW.PrintMore
/-! #### favourites -/
theorem fav_same (w : List Int) (a b c : Int) : ∀ (k : Nat) (best kk : Int), impl_favourite.l0 k w best kk a b c = spec_ckFavourite.l0 k w best [a, b, c] 3 kk := by
  intro k
  induction k with
  | zero => intro best kk; rfl
  | succ k ih =>
    intro best kk
    simp only [impl_favourite.l0, spec_ckFavourite.l0]
    by_cases h1 : kk < 3
    · have e : (kk < (([a, b, c] : List Int).length : Int)) = True := eq_true (by simpa using h1)
      simp only [e, if_true, ih]
    · simp only [h1, if_false]
theorem fav_some (w : List Int) (hw : w.length = 3) (a b c : Int) : ∀ (d k : Nat) (i best : Int), 0 ≤ i → i + d = 3 → -1 ≤ best → best < 3 → d < k → ∃ r, impl_favourite.l0 k w best i a b c = some r := by
  intro d
  induction d with
  | zero =>
    intro k i best h0 hi hb hb' hk
    obtain ⟨k, rfl⟩ : ∃ m, k = m + 1 := ⟨k - 1, by omega⟩
    simp only [impl_favourite.l0]; rw [if_neg (by omega)]; exact ⟨best, rfl⟩
  | succ d ih =>
    intro k i best h0 hi hb hb' hk
    obtain ⟨k, rfl⟩ : ∃ m, k = m + 1 := ⟨k - 1, by omega⟩
    simp only [impl_favourite.l0]
    have n1 := ih k (i + 1) i (by omega) (by omega) (by omega) (by omega) (by omega)
    have n2 := ih k (i + 1) best (by omega) (by omega) (by omega) (by omega) (by omega)
    rw [if_pos (by omega), if_pos (by omega), wrap_id (by omega) (by omega)]
    by_cases h1 : rd [a, b, c] i > 0
    · rw [if_pos h1]
      by_cases h2 : best < 0
      · rw [if_pos h2]; exact n1
      · rw [if_neg h2, if_pos (by omega), if_pos (by omega), if_pos (by omega)]
        by_cases h3 : rd w i > rd w best
        · rw [if_pos h3]; exact n1
        · rw [if_neg h3]; exact n2
    · rw [if_neg h1]; exact n2
end Go.Proofs.Ytbbkohmebjcghaa.Cake
end
/-! ### CakeG -/
section
namespace Go.Proofs.Ytbbkohmebjcghaa.Cake
open Go.RowKit Go.Proofs.Ytbbkohmebjcghaa.All Go.Proofs.Ytbbkohmebjcghaa.Eqs Go.Proofs.YtbbkohmebjcghaaW.PrintWords Go.Proofs.YtbbkohmebjcghaaW.PrintLast Go.Proofs.YtbbkohmebjcghaaW.PrintMore
theorem person_is (x : Int) : spec_ckPerson.f x = some (inB 0 2 x) ∧ impl_isPerson.f x = some (inB 0 2 x) := by
  unfold spec_ckPerson.f impl_isPerson.f
  rw [l1In_is, in_is]
  exact ⟨rfl, rfl⟩
theorem pieces_both (n i : Int) (t : List Int) (a b c : Nat) (hat : ∀ k, 20 ≤ k → spec_meAt.f k n i = some [(a : Int), (b : Int), (c : Int)]) (ha : t.all (inB 0 9) = true) (hs : a + b + c = t.length) (h8 : t.length ≤ 8) (k : Nat) (hk : 300 < k) :
    spec_ckPieces.f k n t i = some (worth3 a b c t) ∧ impl_piecesOf.f k t a b c = some (worth3 a b c t) := by
  refine ⟨?_, pieces_impl t ha h8 a b c hs k (by omega)⟩
  unfold spec_ckPieces.f
  rw [hat k (by omega), Option.bind_some]
  exact pieces_l0 t ha h8 a b c hs k (by omega)
theorem fav_is (n i : Int) (t : List Int) (a b c : Nat) (hat : ∀ k, 20 ≤ k → spec_meAt.f k n i = some [(a : Int), (b : Int), (c : Int)]) (ha : t.all (inB 0 9) = true) (hs : a + b + c = t.length) (h8 : t.length ≤ 8) :
    ∃ r, ∀ k, 300 < k → spec_ckFavourite.f k n t i = some r ∧ impl_favourite.f k t a b c = some r := by
  obtain ⟨r, hr⟩ := fav_some (worth3 a b c t) rfl a b c 3 301 0 (-1) (by omega) (by omega) (by omega) (by omega) (by omega)
  have h1 : impl_favourite.f 301 t a b c = some r := by
    unfold impl_favourite.f
    rw [(pieces_both n i t a b c hat ha hs h8 301 (by omega)).2, Option.bind_some]; exact hr
  have h2 : spec_ckFavourite.f 301 n t i = some r := by
    unfold spec_ckFavourite.f
    rw [(pieces_both n i t a b c hat ha hs h8 301 (by omega)).1, Option.bind_some, hat 301 (by omega), Option.bind_some]
    have := fav_same (worth3 a b c t) a b c 301 (-1) 0
    rw [hr] at this
    exact this.symm
  exact ⟨r, fun k hk => ⟨at_rounds (spec_ckFavourite.mono n t i) (show 301 ≤ k by omega) h2, at_rounds (impl_favourite.mono t a b c) (show 301 ≤ k by omega) h1⟩⟩
theorem row_of {n : Nat} {ls : List (List Int)} (hg : Good n ls) {p : Int} (h0 : 0 ≤ p) (h3 : p < 3) : (rd_L1 ls p).length = n ∧ (rd_L1 ls p).all (inB 0 9) = true := by
  have hlt : p.toNat < ls.length := by have := hg.1; omega
  have e : rd_L1 ls p = ls[p.toNat] := by simp [rd_L1, List.getD, List.getElem?_eq_getElem hlt]
  rw [e]
  exact hg.2 _ (List.getElem_mem hlt)
theorem favouriteOf_same (n : Int) (ls : List (List Int)) (p i : Int) (hs : Small ls) : ∃ r b, ∀ k, 2097200 ≤ k → spec_FavouriteOf.f k n ls p i = some (r, b) ∧ impl_FavouriteOf.f k n ls p i = some (r, b) := by
  have zero : ∀ k, 2097200 ≤ k → impl_FavouriteOf.j0 k n ls p i true = some (0, false) := fun k hk => by
    obtain ⟨k, rfl⟩ : ∃ m, k = m + 1 := ⟨k - 1, by omega⟩
    rfl
  have unf : ∀ k, 2097200 ≤ k → spec_FavouriteOf.f k n ls p i = (if tastesOk n ls = true then (if inB 0 2 p = true then (if isPt n i = true then (if 0 ≤ p then (if p < (ls.length : Int) then ((spec_ckFavourite.f k n (rd_L1 ls p) i).bind fun t => (some (t, true))) else none) else none) else some (0, false)) else some (0, false)) else some (0, false)) ∧ impl_FavouriteOf.f k n ls p i = (if tastesOk n ls = true then (if inB 0 2 p = true then impl_FavouriteOf.j0 k n ls p i (!isPt n i) else impl_FavouriteOf.j0 k n ls p i true) else impl_FavouriteOf.j0 k n ls p i true) := fun k hk => by
    unfold spec_FavouriteOf.f impl_FavouriteOf.f
    rw [spec_tastes n ls hs k (by omega), impl_tastes, spec_point, impl_point, (person_is p).1, (person_is p).2]
    exact ⟨rfl, rfl⟩
  by_cases ht : tastesOk n ls = true
  · by_cases hq : inB 0 2 p = true
    · by_cases hp : isPt n i = true
      · obtain ⟨h1, h8, hg⟩ := good_of ht
        obtain ⟨ps, a, b, c, hps, hlt, e0, e1, e2, hat, hsum⟩ := point_is hp
        obtain ⟨_, _, h0, _⟩ := pt_bounds hp
        have hq' : 0 ≤ p ∧ p ≤ 2 := by unfold inB at hq; simpa using hq
        obtain ⟨hl, ha⟩ := row_of hg hq'.1 (by omega)
        obtain ⟨r, hr⟩ := fav_is n i (rd_L1 ls p) a b c hat ha (by omega) (by omega)
        have hl3 := hg.1
        refine ⟨r, true, fun k hk => ?_⟩
        obtain ⟨u1, u2⟩ := unf k hk
        rw [u1, u2, if_pos ht, if_pos hq, if_pos hp, if_pos ht, if_pos hq, if_pos hq'.1, if_pos (by omega), (hr k (by omega)).1, hp]
        obtain ⟨k, rfl⟩ : ∃ m, k = m + 1 := ⟨k - 1, by omega⟩
        simp only [impl_FavouriteOf.j0, Bool.not_true]
        rw [if_neg (by decide), if_pos hq'.1, if_pos (by omega), hps k (by omega), Option.bind_some, Option.bind_some, if_pos h0, if_pos hlt, e0, e1, e2, (hr k (by omega)).2]
        exact ⟨rfl, rfl⟩
      · refine ⟨0, false, fun k hk => ?_⟩
        obtain ⟨u1, u2⟩ := unf k hk
        rw [u1, u2, if_pos ht, if_pos hq, if_neg hp, if_pos ht, if_pos hq, Bool.eq_false_iff.mpr hp]
        exact ⟨rfl, zero k hk⟩
    · refine ⟨0, false, fun k hk => ?_⟩
      obtain ⟨u1, u2⟩ := unf k hk
      rw [u1, u2, if_pos ht, if_neg hq, if_pos ht, if_neg hq]
      exact ⟨rfl, zero k hk⟩
  · refine ⟨0, false, fun k hk => ?_⟩
    obtain ⟨u1, u2⟩ := unf k hk
    rw [u1, u2, if_neg ht, if_neg ht]
    exact ⟨rfl, zero k hk⟩
theorem piecesOf_same (n : Int) (ls : List (List Int)) (p i : Int) (hs : Small ls) : ∃ r b, r.length ≤ 1048576 ∧ ∀ k, 2097200 ≤ k → spec_PiecesOf.f k n ls p i = some (r, b) ∧ impl_PiecesOf.f k n ls p i = some (r, b) := by
  have zero : ∀ k, 2097200 ≤ k → impl_PiecesOf.j0 k n ls p i true = some ([], false) := fun k hk => by
    obtain ⟨k, rfl⟩ : ∃ m, k = m + 1 := ⟨k - 1, by omega⟩
    rfl
  have unf : ∀ k, 2097200 ≤ k → spec_PiecesOf.f k n ls p i = (if tastesOk n ls = true then (if inB 0 2 p = true then (if isPt n i = true then (if 0 ≤ p then (if p < (ls.length : Int) then ((spec_ckPieces.f k n (rd_L1 ls p) i).bind fun t => (some (t, true))) else none) else none) else some ([], false)) else some ([], false)) else some ([], false)) ∧ impl_PiecesOf.f k n ls p i = (if tastesOk n ls = true then (if inB 0 2 p = true then impl_PiecesOf.j0 k n ls p i (!isPt n i) else impl_PiecesOf.j0 k n ls p i true) else impl_PiecesOf.j0 k n ls p i true) := fun k hk => by
    unfold spec_PiecesOf.f impl_PiecesOf.f
    rw [spec_tastes n ls hs k (by omega), impl_tastes, spec_point, impl_point, (person_is p).1, (person_is p).2]
    exact ⟨rfl, rfl⟩
  by_cases ht : tastesOk n ls = true
  · by_cases hq : inB 0 2 p = true
    · by_cases hp : isPt n i = true
      · obtain ⟨h1, h8, hg⟩ := good_of ht
        obtain ⟨ps, a, b, c, hps, hlt, e0, e1, e2, hat, hsum⟩ := point_is hp
        obtain ⟨_, _, h0, _⟩ := pt_bounds hp
        have hq' : 0 ≤ p ∧ p ≤ 2 := by unfold inB at hq; simpa using hq
        obtain ⟨hl, ha⟩ := row_of hg hq'.1 (by omega)
        have hr := pieces_both n i (rd_L1 ls p) a b c hat ha (by omega) (by omega)
        have hl3 := hg.1
        refine ⟨worth3 a b c (rd_L1 ls p), true, by simp [worth3], fun k hk => ?_⟩
        obtain ⟨u1, u2⟩ := unf k hk
        rw [u1, u2, if_pos ht, if_pos hq, if_pos hp, if_pos ht, if_pos hq, if_pos hq'.1, if_pos (by omega), (hr k (by omega)).1, hp]
        obtain ⟨k, rfl⟩ : ∃ m, k = m + 1 := ⟨k - 1, by omega⟩
        simp only [impl_PiecesOf.j0, Bool.not_true]
        rw [if_neg (by decide), if_pos hq'.1, if_pos (by omega), hps k (by omega), Option.bind_some, Option.bind_some, if_pos h0, if_pos hlt, e0, e1, e2, (hr k (by omega)).2]
        exact ⟨rfl, rfl⟩
      · refine ⟨[], false, by simp, fun k hk => ?_⟩
        obtain ⟨u1, u2⟩ := unf k hk
        rw [u1, u2, if_pos ht, if_pos hq, if_neg hp, if_pos ht, if_pos hq, Bool.eq_false_iff.mpr hp]
        exact ⟨rfl, zero k hk⟩
    · refine ⟨[], false, by simp, fun k hk => ?_⟩
      obtain ⟨u1, u2⟩ := unf k hk
      rw [u1, u2, if_pos ht, if_neg hq, if_pos ht, if_neg hq]
      exact ⟨rfl, zero k hk⟩
  · refine ⟨[], false, by simp, fun k hk => ?_⟩
    obtain ⟨u1, u2⟩ := unf k hk
    rw [u1, u2, if_neg ht, if_neg ht]
    exact ⟨rfl, zero k hk⟩
/-! #### labels -/
theorem count_is (n : Int) : spec_meCount.f n = some (cnt n) := rfl
theorem labels_l0 (n : Int) (h1 : 1 ≤ n) (h8 : n ≤ 8) (ls : List (List Int)) (hg : Good n.toNat ls) (ps : List S54) (hl : (ps.length : Int) = cnt n) (h45 : ps.length ≤ 45)
    (hpt : ∀ i : Nat, i < ps.length → (∀ k, 20 ≤ k → spec_meAt.f k n i = some [(rd_T54 ps i).f0, (rd_T54 ps i).f1, (rd_T54 ps i).f2]) ∧ 0 ≤ (rd_T54 ps i).f0 ∧ 0 ≤ (rd_T54 ps i).f1 ∧ 0 ≤ (rd_T54 ps i).f2 ∧ (rd_T54 ps i).f0 + (rd_T54 ps i).f1 + (rd_T54 ps i).f2 = n)
    (d : Nat) : ∀ (i : Nat) (out : List Int), i + d = ps.length → out.length ≤ i → ∃ r, r.length ≤ 45 ∧ ∀ k, d + 400 < k → spec_ckLabels.l0 k n ls out i = some r ∧ impl_cakeLabels.l0 k ls out ps (ps.length : Int) i = some r := by
  have hl3 := hg.1
  induction d with
  | zero =>
    intro i out hi ho
    refine ⟨out, by omega, fun k hk => ?_⟩
    obtain ⟨k, rfl⟩ : ∃ m, k = m + 1 := ⟨k - 1, by omega⟩
    simp only [spec_ckLabels.l0, impl_cakeLabels.l0]
    rw [count_is, Option.bind_some, if_neg (by omega), if_neg (by omega)]
    exact ⟨rfl, rfl⟩
  | succ d ih =>
    intro i out hi ho
    have hlt : i < ps.length := by omega
    obtain ⟨e, p0, p1, p2, p3⟩ := hpt i hlt
    obtain ⟨p, hpe⟩ : ∃ p, rd_T54 ps (i : Int) = p := ⟨_, rfl⟩
    rw [hpe] at e p0 p1 p2 p3
    obtain ⟨a, ha⟩ : ∃ a : Nat, p.f0 = a := ⟨p.f0.toNat, by omega⟩
    obtain ⟨b, hb⟩ : ∃ b : Nat, p.f1 = b := ⟨p.f1.toNat, by omega⟩
    obtain ⟨c, hc⟩ : ∃ c : Nat, p.f2 = c := ⟨p.f2.toNat, by omega⟩
    rw [ha, hb, hc] at e p3
    have ew : wrap64 ((b : Int) + wrap64 (2 * (c : Int))) = ((b + 2 * c : Nat) : Int) := by
      rw [wrap_id (x := 2 * (c : Int)) (by omega) (by omega), wrap_id (by omega) (by omega)]; omega
    have eo : Int.tmod ((b + 2 * c : Nat) : Int) 3 = (((b + 2 * c) % 3 : Nat) : Int) := rfl
    obtain ⟨o, ho3⟩ : ∃ o : Nat, o = (b + 2 * c) % 3 := ⟨_, rfl⟩
    have hlt3 : o < 3 := by rw [ho3]; exact Nat.mod_lt _ (by decide)
    have EW := Aside0.mk ew
    have EO := Aside0.mk eo
    have HO3 := Aside0.mk ho3
    clear ew eo ho3
    obtain ⟨hrl, hra⟩ := row_of hg (p := (o : Int)) (by omega) (by omega)
    obtain ⟨r0, hr0⟩ := fav_is n i (rd_L1 ls (o : Int)) a b c e hra (by omega) (by omega)
    obtain ⟨r, hrl2, hr⟩ := ih (i + 1) (out ++ [r0]) (by omega) (by simp; omega)
    refine ⟨r, hrl2, fun k hk => ?_⟩
    obtain ⟨k, rfl⟩ : ∃ m, k = m + 1 := ⟨k - 1, by omega⟩
    have e1 : spec_ckOwner.f k n (i : Int) = some (o : Int) := by
      unfold spec_ckOwner.f
      rw [e k (by omega), Option.bind_some, if_pos (by simp), if_pos (by simp), show rd [(a : Int), (b : Int), (c : Int)] 1 = (b : Int) from rfl, show rd [(a : Int), (b : Int), (c : Int)] 2 = (c : Int) from rfl, EW.out, EO.out, HO3.out]
    have e2 : impl_owner.f (a : Int) (b : Int) (c : Int) = some (o : Int) := by
      unfold impl_owner.f
      rw [EW.out, EO.out, HO3.out]
    simp only [spec_ckLabels.l0, impl_cakeLabels.l0]
    rw [count_is, Option.bind_some, if_pos (by omega), e1, Option.bind_some, if_pos (by omega), if_pos (by omega), (hr0 k (by omega)).1, Option.bind_some, if_pos (by omega), wrap_id (x := (i : Int) + 1) (by omega) (by omega), if_pos (by omega), if_pos (by omega), if_pos (by omega), hpe, ha, hb, hc, e2, Option.bind_some, if_pos (by omega), if_pos (by omega), (hr0 k (by omega)).2, Option.bind_some, if_pos (by omega), show ((i : Int) + 1) = ((i + 1 : Nat) : Int) from rfl]
    exact hr k (by omega)
theorem cakeLabels_same (n : Int) (ls : List (List Int)) (hs : Small ls) : ∃ r b, r.length ≤ 1048576 ∧ ∀ k, 2097200 ≤ k → spec_CakeLabels.f k n ls = some (r, b) ∧ impl_CakeLabels.f k n ls = some (r, b) := by
  by_cases ht : tastesOk n ls = true
  · obtain ⟨h1, h8, hg⟩ := good_of ht
    obtain ⟨ps, hp, hl, h45, hpt⟩ := pts n h1 h8
    obtain ⟨r, hrl, hr⟩ := labels_l0 n h1 h8 ls hg ps hl h45 hpt ps.length 0 [] (by omega) (by simp)
    refine ⟨r, true, by omega, fun k hk => ?_⟩
    unfold spec_CakeLabels.f impl_CakeLabels.f spec_ckLabels.f impl_cakeLabels.f
    have := hr k (by omega)
    rw [show ((0 : Nat) : Int) = 0 from rfl] at this
    rw [spec_tastes n ls hs k (by omega), impl_tastes, Option.bind_some, Option.bind_some, if_pos ht, if_pos ht, hp k (by omega), Option.bind_some, this.1, this.2]
    exact ⟨rfl, rfl⟩
  · refine ⟨[], false, by simp, fun k hk => ?_⟩
    unfold spec_CakeLabels.f impl_CakeLabels.f
    rw [spec_tastes n ls hs k (by omega), impl_tastes, Option.bind_some, Option.bind_some, if_neg ht, if_neg ht]
    exact ⟨rfl, rfl⟩
end Go.Proofs.Ytbbkohmebjcghaa.Cake
end

